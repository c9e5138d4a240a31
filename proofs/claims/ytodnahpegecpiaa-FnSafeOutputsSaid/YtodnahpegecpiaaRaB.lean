/- Owned slices: literals, appends. -/
import Derived.Test.YtodnahpegecpiaaRegB
namespace Go.Proofs.Ytodnahpegecpiaa
set_option linter.unusedSimpArgs false
set_option linter.unusedVariables false
open Go.RowKit
theorem Rd.toInts {w : World} {A : Option Addr} {n c : Nat} {l : List Int} (h : RdD w (.slice A n c) (.ints l)) : Ints w A n l := by
  obtain ⟨_, _, _, e, hI⟩ := h; cases e; exact hI
theorem OwnL.nones {w : World} {lo : Nat} (ls : List (Value × Dat)) (h : ∀ p ∈ ls, p = (.slice none 0 0, .ints [])) (hs : lo ≤ w.heap.size) : OwnL w lo w.heap.size ls := by
  refine ⟨hs, Nat.le_refl _, fun p hp => ?_, ?_⟩
  · rw [h p hp]; exact ⟨World.ownsRow_nil _ _ _ _, fun k hk => by cases hk⟩
  · refine List.pairwise_iff_forall_sublist.2 fun {a b} hab => ?_
    have ha := h a (hab.subset (by simp))
    rw [ha]; intro k hk; cases hk
theorem OwnL.lit0 {w : World} {g : Nat} (h : Box w g #[] 3) : OwnL w g (g + 1) [(.slice (some ⟨g, 0, none⟩) 0 0, .ints [])] := by
  refine ⟨by omega, h.lt, fun p hp => ?_, List.pairwise_singleton _ _⟩
  simp at hp; subst hp
  refine ⟨⟨rfl, .inr ⟨g, 0, _, rfl, Nat.le_refl _, h, Nat.le_refl _, by unfold maxLen; omega, rfl, rfl⟩⟩, fun k hk => ?_⟩
  simp [Value.ownBlock] at hk; omega
theorem OwnL.lit1 {w : World} {g : Nat} {k : Int} (h : Box w g #[.int .i64 k] 3) : OwnL w g (g + 1) [(.slice (some ⟨g, 0, none⟩) 1 1, .ints [k])] := by
  refine ⟨by omega, h.lt, fun p hp => ?_, List.pairwise_singleton _ _⟩
  simp at hp; subst hp
  refine ⟨⟨rfl, .inr ⟨g, 1, _, rfl, Nat.le_refl _, h, Nat.le_refl _, by unfold maxLen; omega, rfl, rfl⟩⟩, fun k hk => ?_⟩
  simp [Value.ownBlock] at hk; omega
/-- 'out = append(out, y)' (y lies in the new block that the walk has just laid). -/
theorem append_N {w : World} {ops : Array Oper} {rest : List Oper} {o : Oper} {a : Act} {Q : Exit → Act → World → Prop} (hgd : o.guard = none) (s x : Operand)
    (ho : o.op = .call { callee := .builtin .append, args := #[s, x], argTypes := #[25, 25] })
    {lo hi : Nat} {v : Value} {l : List Int} (y : Int) (g : Nat) (hs : a.eval s = v) (hx : a.eval x = .slice (some ⟨g, 0, none⟩) 1 1) (r : OwnL w lo hi [(v, .ints l)]) (hg : g = w.heap.size) (hlen : l.length ≤ 1099511627776)
    (h : ∀ A n c w', OwnL w' lo w'.heap.size [(.slice A n c, .ints (l ++ [y]))] → Chg lo hi w w' → wpList Try.prog ops Q rest (a.put o.dst (.slice A n c)) w') :
    wpList Try.prog ops Q (o :: rest) a (w.alloc (.cells #[.int .i64 y] 3)) := by
  have hown : Own w lo v l := r.get (p := (v, .ints l)) (by simp)
  have hr1 := r.1
  have hr2 := r.2.1
  refine append_int hgd s x ho lo v l y g hs hx hown hg hlen (by omega) fun v' w' h1 h2 => ?_
  have hc : Chg lo hi w w' := OwnL.chg (pre := []) (post := []) r h2
  have hD : OwnD w' lo v' (.ints (l ++ [y])) := by unfold OwnD; exact h1
  obtain ⟨A, n, c, rfl⟩ := hD.form
  exact h A n c w' (OwnL.one hD (by have := hc.size; omega)) hc
end Go.Proofs.Ytodnahpegecpiaa

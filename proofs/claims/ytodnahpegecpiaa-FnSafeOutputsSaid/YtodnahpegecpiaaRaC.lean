/- An append that tells where the new slice lies. -/
import Derived.Test.YtodnahpegecpiaaRaB
namespace Go.Proofs.Ytodnahpegecpiaa
set_option linter.unusedSimpArgs false
set_option linter.unusedVariables false
open Go.RowKit
theorem append_D {w : World} {ops : Array Oper} {rest : List Oper} {o : Oper} {a : Act} {Q : Exit → Act → World → Prop} (hgd : o.guard = none) (s x : Operand)
    (ho : o.op = .call { callee := .builtin .append, args := #[s, x], argTypes := #[25, 25] })
    {lo hi : Nat} {v : Value} {l : List Int} (hs : a.eval s = v) (r : OwnL w lo hi [(v, .ints l)]) {A : Option Addr} {m c : Nat} {l2 : List Int} (hx : a.eval x = .slice A m c) (hI : Ints w A m l2) (hlen : l.length + m ≤ 1099511627776)
    (h : ∀ A' n' c' lo' hi' w', OwnL w' lo' hi' [(.slice A' n' c', .ints (l ++ l2))] → ((lo' = lo ∧ hi' = hi) ∨ (lo' = w.heap.size ∧ hi' = w'.heap.size)) → Chg lo hi w w' → wpList Try.prog ops Q rest (a.put o.dst (.slice A' n' c')) w') :
    wpList Try.prog ops Q (o :: rest) a w := by
  have hown : Own w lo v l := r.get (p := (v, .ints l)) (by simp)
  have hr1 := r.1
  have hr2 := r.2.1
  refine append_ints hgd s x ho lo v l hs hown hx hI hlen (by omega) fun v' w' h1 hg hb => ?_
  have hc : Chg lo hi w w' := OwnL.chg (pre := []) (post := []) r hg
  have hD : OwnD w' lo v' (.ints (l ++ l2)) := by unfold OwnD; exact h1
  obtain ⟨A', n', c', rfl⟩ := hD.form
  have hsz := hc.size
  rcases hb with hb | hb
  · refine h A' n' c' lo hi w' ⟨hr1, by omega, fun p hp => ?_, List.pairwise_singleton _ _⟩ (.inl ⟨rfl, rfl⟩) hc
    simp at hp; subst hp
    exact ⟨hD, fun k hk => (r.2.2.1 (v, .ints l) (by simp)).2 k (by rw [← hb]; exact hk)⟩
  · refine h A' n' c' w.heap.size w'.heap.size w' ⟨hsz, Nat.le_refl _, fun p hp => ?_, List.pairwise_singleton _ _⟩ (.inr ⟨rfl, rfl⟩) hc
    simp at hp; subst hp
    refine ⟨⟨hD.1, ?_⟩, fun k hk => (hD.lt k hk).2⟩
    rcases hD.2 with ⟨e, _⟩ | ⟨g, cap, cur, e, _, rest⟩
    · rw [e] at hb; cases hb
    · rw [e] at hb ⊢
      have : g = w.heap.size := by simpa [Value.ownBlock] using hb
      exact .inr ⟨g, cap, cur, rfl, by omega, rest⟩
end Go.Proofs.Ytodnahpegecpiaa

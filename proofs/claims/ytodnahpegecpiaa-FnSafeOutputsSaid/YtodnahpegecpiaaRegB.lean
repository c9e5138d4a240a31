/- An append in a region that draws its order, told of owned slices; a tape's list told so. -/
import Derived.Test.YtodnahpegecpiaaAuto
import Derived.Test.YtodnahpegecpiaaTapeL
namespace Go.Proofs.Ytodnahpegecpiaa
set_option linter.unusedSimpArgs false
set_option linter.unusedVariables false
open Go.RowKit
theorem OwnL.two {w : World} {lo hi lo1 hi1 B : Nat} {ls ls2 : List (Value × Dat)} (h : OwnL w lo hi ls) (k : OwnL w lo1 hi1 ls2) (hd : hi ≤ lo1 ∨ hi1 ≤ lo) (h1 : B ≤ lo) (h2 : B ≤ lo1) : OwnL w B w.heap.size (ls ++ ls2) := by
  refine ⟨by have := h.1; have := h.2.1; omega, Nat.le_refl _, fun p hp => ?_, List.pairwise_append.2 ⟨h.2.2.2, k.2.2.2, fun p hp q hq b hb hb2 => ?_⟩⟩
  · rcases List.mem_append.1 hp with hp | hp
    · exact ⟨(h.2.2.1 p hp).1.mono h1, fun b hb => ((h.2.2.1 p hp).1.lt b hb).2⟩
    · exact ⟨(k.2.2.1 p hp).1.mono h2, fun b hb => ((k.2.2.1 p hp).1.lt b hb).2⟩
  · have e1 := (h.2.2.1 p hp).2 b hb
    have e2 := ((h.2.2.1 p hp).1.lt b hb).1
    have e3 := ((k.2.2.1 q hq).1.lt b hb2).1
    have e4 := (k.2.2.1 q hq).2 b hb2
    omega
theorem appendH_L {ops : Array Oper} {Q : Exit → Act → World → Prop} {md : Region.Mode} {S : World → Prop} {i : Nat} {oi : Oper} {fuel : Nat} {listed : Array Bool} {a : Act} {w : World} (s x : Operand)
    (ho : oi.op = .call { callee := .builtin .append, args := #[s, x], argTypes := #[25, 25] })
    {lo hi : Nat} {v : Value} {l : List Int} (hs : a.eval s = v) (r : OwnL w lo hi [(v, .ints l)]) {A : Option Addr} {m c : Nat} {l2 : List Int} (hx : a.eval x = .slice A m c) (hI : Ints w A m l2) (hlen : l.length + m ≤ 1099511627776)
    (h : ∀ A' n' c' lo' hi' w', OwnL w' lo' hi' [(.slice A' n' c', .ints (l ++ l2))] → ((lo' = lo ∧ hi' = hi) ∨ (lo' = w.heap.size ∧ hi' = w'.heap.size)) → Chg lo hi w w' →
      S w' ∧ (S w' → wpAnyH Try.prog md ops Q S fuel (listed.setIfInBounds i true) (a.put oi.dst (.slice A' n' c')) w')) :
    StepH Try.prog md ops Q S fuel listed i oi a w := by
  have hown : Own w lo v l := r.get (p := (v, .ints l)) (by simp)
  have hr1 := r.1
  have hr2 := r.2.1
  refine appendH s x ho lo v l hs hown hx hI hlen (by omega) fun v' w' h1 hg hb => ?_
  have hc : Chg lo hi w w' := OwnL.chg (pre := []) (post := []) r hg
  have hD : OwnD w' lo v' (.ints (l ++ l2)) := by unfold OwnD; exact h1
  obtain ⟨A', n', c', rfl⟩ := hD.form
  have hsz := hc.size
  rcases hb with hb | hb
  · refine h A' n' c' lo hi w' ⟨hr1, by omega, fun p hp => ?_, List.pairwise_singleton _ _⟩ (.inl ⟨rfl, rfl⟩) hc
    simp at hp; subst hp
    exact ⟨hD, fun k hk => (r.2.2.1 (v, .ints l) (by simp)).2 k (by rw [← hb]; exact hk)⟩
  · refine h A' n' c' w.heap.size w'.heap.size w' ⟨hsz, Nat.le_refl _, fun p hp => ?_, List.pairwise_singleton _ _⟩ (.inr ⟨rfl, rfl⟩) hc
    simp at hp; subst hp
    refine ⟨⟨hD.1, ?_⟩, fun k hk => (hD.lt k hk).2⟩
    rcases hD.2 with ⟨e, _⟩ | ⟨g, cap, cur, e, _, rest⟩
    · rw [e] at hb; cases hb
    · rw [e] at hb ⊢
      have : g = w.heap.size := by simpa [Value.ownBlock] using hb
      exact .inr ⟨g, cap, cur, rfl, by omega, rest⟩
end Go.Proofs.Ytodnahpegecpiaa

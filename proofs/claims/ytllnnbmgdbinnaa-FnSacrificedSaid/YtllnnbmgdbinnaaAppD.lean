/- An append that tells where the new slice lies; a store into an owned slice (the twin of XRaC, free of the seat ra). -/
import Derived.Test.YtllnnbmgdbinnaaSameB
namespace Go.Proofs.Ytllnnbmgdbinnaa
set_option linter.unusedSimpArgs false
set_option linter.unusedVariables false
open Go.RowKit
theorem append_D {w : World} {ops : Array Oper} {rest : List Oper} {o : Oper} {a : Act} {Q : Exit → Act → World → Prop} (hgd : o.guard = none) (s x : Operand)
    (ho : o.op = .call { callee := .builtin .append, args := #[s, x], argTypes := #[27, 27] })
    {lo hi : Nat} {v : Value} {l : List Int} (hs : a.eval s = v) (r : OwnL w lo hi [(v, .ints l)]) {A : Option Addr} {m c : Nat} {l2 : List Int} (hx : a.eval x = .slice A m c) (hI : Ints w A m l2) (hlen : l.length + m ≤ 1099511627776)
    (h : ∀ A' n' c' lo' hi' w', OwnL w' lo' hi' [(.slice A' n' c', .ints (l ++ l2))] → ((lo' = lo ∧ hi' = hi) ∨ (lo' = w.heap.size ∧ hi' = w'.heap.size)) → Chg lo hi w w' → wpList Try.prog ops Q rest (a.put o.dst (.slice A' n' c')) w') :
    wpList Try.prog ops Q (o :: rest) a w := by
  have hown : Own w lo v l := r.get (p := (v, .ints l)) (by simp)
  have hr1 := r.1
  have hr2 := r.2.1
  refine append_ints hgd s x ho lo v l hs hown hx hI hlen (by omega) fun v' w' h1 hg hb => ?_
  have hc : Chg lo hi w w' := OwnL.chg (pre := []) (post := []) r hg
  have hD : OwnD w' lo v' (.ints (l ++ l2)) := by unfold OwnD; exact h1
  obtain ⟨A', n', c', rfl⟩ := hD.form
  have hsz := hc.size
  rcases hb with hb | hb
  · refine h A' n' c' lo hi w' ⟨hr1, by omega, fun p hp => ?_, List.pairwise_singleton _ _⟩ (.inl ⟨rfl, rfl⟩) hc
    simp at hp; subst hp
    exact ⟨hD, fun k hk => (r.2.2.1 (v, .ints l) (by simp)).2 k (by rw [← hb]; exact hk)⟩
  · refine h A' n' c' w.heap.size w'.heap.size w' ⟨hsz, Nat.le_refl _, fun p hp => ?_, List.pairwise_singleton _ _⟩ (.inr ⟨rfl, rfl⟩) hc
    simp at hp; subst hp
    refine ⟨⟨hD.1, ?_⟩, fun k hk => (hD.lt k hk).2⟩
    rcases hD.2 with ⟨e, _⟩ | ⟨g, cap, cur, e, _, rest⟩
    · rw [e] at hb; cases hb
    · rw [e] at hb ⊢
      have : g = w.heap.size := by simpa [Value.ownBlock] using hb
      exact .inr ⟨g, cap, cur, rfl, by omega, rest⟩
section
variable {w : World} {lo hi g n c : Nat} {l : List Int}
theorem olOwn1 (h : OwnL w lo hi [(.slice (some ⟨g, 0, none⟩) n c, .ints l)]) : Own w lo (.slice (some ⟨g, 0, none⟩) n c) l := h.get (p := (.slice (some ⟨g, 0, none⟩) n c, .ints l)) (by simp)
theorem olLen1 (h : OwnL w lo hi [(.slice (some ⟨g, 0, none⟩) n c, .ints l)]) : l.length = n := (ownLen (A := some ⟨g, 0, none⟩) (n := n) (c := c) (l := l) h (by simp)).symm
theorem olCell0 (h : OwnL w lo hi [(.slice (some ⟨g, 0, none⟩) n c, .ints l)]) (j : Nat) (hj : j < l.length) : w.cell? ⟨g, j, none⟩ = some (.int .i64 (nth l j)) := (olOwn1 h).cellAt (olLen1 h) (by rw [← (olLen1 h)]; exact hj)
theorem olFrozen0 (h : OwnL w lo hi [(.slice (some ⟨g, 0, none⟩) n c, .ints l)]) (j : Nat) : w.frozen? ⟨g, j, none⟩ = false := (olOwn1 h).frozenAt (olLen1 h) j
theorem olStored (h : OwnL w lo hi [(.slice (some ⟨g, 0, none⟩) n c, .ints l)]) (j : Nat) (x : Int) :
    OwnL (w.setCell ⟨g, j, none⟩ (.int .i64 x)) lo hi [(.slice (some ⟨g, 0, none⟩) n c, .ints (l.set j x))] ∧ Chg lo hi w (w.setCell ⟨g, j, none⟩ (.int .i64 x)) := by
  obtain ⟨h1, h2⟩ := (olOwn1 h).stored (olLen1 h) j x
  have hD : OwnD (w.setCell ⟨g, j, none⟩ (.int .i64 x)) lo (.slice (some ⟨g, 0, none⟩) n c) (.ints (l.set j x)) := by unfold OwnD; exact h1
  exact ⟨OwnL.set (pre := []) (post := []) h hD h2, OwnL.chg (pre := []) (post := []) h h2⟩
/-- Where the data of a slice of its own lie. -/
theorem olAt0 {A : Option Addr} (h : OwnL w lo hi [(.slice A n c, .ints l)]) (hl : 0 < l.length) : ∃ g, A = some ⟨g, 0, none⟩ := by
  have h1 : Own w lo (.slice A n c) l := h.get (p := (.slice A n c, .ints l)) (by simp)
  obtain ⟨g, cap, e⟩ := own_form h1 hl
  cases e
  exact ⟨g, rfl⟩
end
/-- Six slices, the fifth of which is another one. -/
theorem RdL.fifth {w : World} {s0 s1 s2 s3 s4 s5 d : Value × Dat} (h : RdL w [s0, s1, s2, s3, s4, s5]) (k : RdL w [d]) : RdL w [s0, s1, s2, s3, d, s5] := by
  intro p hp
  simp only [List.mem_cons, List.not_mem_nil, or_false] at hp
  rcases hp with rfl | rfl | rfl | rfl | rfl | rfl
  · exact h _ (by simp)
  · exact h _ (by simp)
  · exact h _ (by simp)
  · exact h _ (by simp)
  · exact k _ (by simp)
  · exact h _ (by simp)
end Go.Proofs.Ytllnnbmgdbinnaa

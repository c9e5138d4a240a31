/- What a call owns, told with the range of its block: two owned slices whose ranges are apart share no block. -/
import Derived.Test.YtodnahpegecpiaaSlib
namespace Go.Proofs.Ytodnahpegecpiaa
set_option linter.unusedSimpArgs false
set_option linter.unusedVariables false
open Go.RowKit
/-- An owned slice whose block lies from lo on and below hi. -/
def OwnR (w : World) (lo hi : Nat) (v : Value) (l : List Int) : Prop := Own w lo v l ∧ (∀ k, v.ownBlock = some k → k < hi) ∧ hi ≤ w.heap.size
section
variable {w w' : World} {lo hi B : Nat} {v : Value} {l : List Int}
theorem Own.range (h : Own w lo v l) : OwnR w lo w.heap.size v l := ⟨h, fun k hk => (h.block k hk).2, Nat.le_refl _⟩
theorem OwnR.below (h : OwnR w lo hi v l) (hb : Below w.heap.size w w') : OwnR w' lo hi v l := ⟨h.1.below hb, h.2.1, Nat.le_trans h.2.2 hb.size⟩
theorem OwnR.far {row : Option Nat} (h : OwnR w lo hi v l) (ho : w.grownBy w' row) (hr : ∀ k, row = some k → k < lo ∨ hi ≤ k) : OwnR w' lo hi v l := by
  refine ⟨h.1.keep ho ?_, h.2.1, Nat.le_trans h.2.2 ho.size⟩
  cases hv : v.ownBlock with
  | none => exact .inl rfl
  | some k =>
    refine .inr (fun e => ?_)
    have h1 := (h.1.block k hv).1
    have h2 := h.2.1 k hv
    have := hr k e.symm
    omega
/-- Another owned slice is written: apart from this one. -/
theorem OwnR.apart {lo2 hi2 : Nat} {v2 : Value} {l2 : List Int} (h : OwnR w lo hi v l) (h2 : OwnR w lo2 hi2 v2 l2) (ho : w.grownBy w' v2.ownBlock) (hd : hi2 ≤ lo ∨ hi ≤ lo2) : OwnR w' lo hi v l :=
  h.far ho fun k hk => by have h3 := (h2.1.block k hk).1; have h4 := h2.2.1 k hk; omega
theorem OwnR.belowBy (h : OwnR w lo hi v l) (ho : w.grownBy w' v.ownBlock) (hB : B ≤ lo) (hs : B ≤ w.heap.size) : Below B w w' :=
  (Below.refl B w).grown ho hs (fun k hk => Nat.le_trans hB (h.1.block k hk).1)
theorem OwnR.marked {m : List Int} (h : OwnR w lo hi v l) (h1 : Own w' lo v m) (ho : w.grownBy w' v.ownBlock) : OwnR w' lo hi v m := ⟨h1, h.2.1, Nat.le_trans h.2.2 ho.size⟩
theorem OwnR.reads (h : OwnR w lo hi v l) : ∃ A c, v = .slice A l.length c := by
  obtain ⟨A, c, e, _⟩ := h.1.reads
  exact ⟨A, c, e⟩
theorem OwnR.ints {A : Option Addr} {n c : Nat} (h : OwnR w lo hi (.slice A n c) l) : Ints w A n l := by
  obtain ⟨A', c', e, hI⟩ := h.1.reads
  cases e
  exact hI
theorem OwnR.seq {A : Option Addr} {n c k : Nat} (h : OwnR w lo hi (.slice A n c) (seqL k n)) : Ints w A n (seqL k n) := h.ints
end
end Go.Proofs.Ytodnahpegecpiaa

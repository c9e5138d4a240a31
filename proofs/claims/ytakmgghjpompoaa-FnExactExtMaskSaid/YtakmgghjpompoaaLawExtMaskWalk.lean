/- The walk of the law FnExactExtMask. -/
import Derived.Test.YtakmgghjpompoaaExtMask
import Derived.Test.YtakmgghjpompoaaOwnR
import Derived.Test.YtakmgghjpompoaaOpenS
namespace Go.Proofs.Ytakmgghjpompoaa
set_option linter.unusedSimpArgs false
set_option linter.unusedVariables false
open Go.RowKit
theorem extMaskL_len (l : List Int) : (extMaskL l).length ≤ 32 := by
  unfold extMaskL
  split
  · rename_i h
    simp only [Bool.and_eq_true, decide_eq_true_eq] at h
    simp [times255, h.1]
  · simp
set_option maxRecDepth 100000 in
theorem walk_FnExactExtMask (A : Option Addr) (n c : Nat) (l : List Int) (w : World) (hx : Ints0 w A n l) :
    Calls Try.prog 12 #[.slice A n c] w fun e w' => e = .returned (.bool true) ∧ Below w.heap.size w w' := by
  by_cases hn : (1048576 : Int) < n
  · go_enter Try.func12, Try.ntmps12
    go_wp2
    go_ret
    exact ⟨rfl, Below.refl _ _⟩
  · have hA := hx.2
    have hlen := extMaskL_len l
    go_enter Try.func12, Try.ntmps12
    go_wp2_with fail
    refine (toIntS_any A n c l _ hA (by omega)).mono ?_
    rintro e w1 ⟨rfl, h1, b1⟩
    have B1 := b1
    go_wp2_with fail
    refine (sExtMask_any _ n n l _ h1.range.ints (by omega)).mono ?_
    rintro e w2 ⟨v2, rfl, h2, b2⟩
    have B2 := B1.trans (b2.mono b1.size)
    have r2 := h2.range
    obtain ⟨a2, c2, rfl⟩ := r2.reads
    go_wp2_with fail
    refine (toIntS_any A n c l _ (hA.below B2) (by omega)).mono ?_
    rintro e w3 ⟨rfl, h3, b3⟩
    have B3 := B2.trans (b3.mono B2.size)
    have r3 := h3.range
    have r2 := r2.below b3
    go_wp2_with fail
    refine (iExtMask_any _ n n l _ r3.ints (by omega)).mono ?_
    rintro e w4 ⟨v4, rfl, h4, b4⟩
    have B4 := B3.trans (b4.mono B3.size)
    have r2 := r2.below b4
    have r3 := r3.below b4
    have r4 := h4.range
    obtain ⟨a4, c4, rfl⟩ := r4.reads
    go_wp2_with fail
    refine (eqIntS_any _ _ _ _ _ _ _ r4.ints r2.ints (by omega)).mono ?_
    rintro e w5 ⟨rfl, b5⟩
    have B5 := B4.trans (b5.mono B4.size)
    have r2 := r2.below b5
    have r3 := r3.below b5
    have r4 := r4.below b5
    go_wp2_with fail
    refine (toIntS_any A n c l _ (hA.below B5) (by omega)).mono ?_
    rintro e w6 ⟨rfl, h6, b6⟩
    have B6 := B5.trans (b6.mono B5.size)
    have r2 := r2.below b6
    have r3 := r3.below b6
    have r4 := r4.below b6
    go_wp2_with fail
    refine (eqIntS_any _ _ _ _ _ _ _ r3.ints h6.range.ints (by omega)).mono ?_
    rintro e w7 ⟨rfl, b7⟩
    have B7 := B6.trans (b7.mono B6.size)
    have r2 := r2.below b7
    have r3 := r3.below b7
    have r4 := r4.below b7
    go_wp2_with fail
    refine (markIntS_any _ 1 _ l _ r3.1 (by rw [hA.len]; omega) (by omega)).mono ?_
    rintro e w8 ⟨rfl, h8, o8⟩
    have B8 := B7.trans (r3.belowBy o8 (by have := B2.size; omega) (by have := B7.size; omega))
    have r2 := r2.apart r3 o8 (.inr (by have := b3.size; omega))
    have r4 := r4.apart r3 o8 (.inl (by omega))
    go_wp2_with fail
    refine (eqIntS_any _ _ _ _ _ _ _ r4.ints r2.ints (by omega)).mono ?_
    rintro e w9 ⟨rfl, b9⟩
    have B9 := B8.trans (b9.mono B8.size)
    have r2 := r2.below b9
    have r4 := r4.below b9
    go_wp2_with fail
    refine (markIntS_any _ 1 _ _ _ r4.1 (by omega) (by omega)).mono ?_
    rintro e w10 ⟨rfl, h10, o10⟩
    have B10 := B9.trans (r4.belowBy o10 (by have := B3.size; omega) (by have := B9.size; omega))
    have r2 := r2.apart r4 o10 (.inr (by have := b3.size; omega))
    have r4 := r4.marked h10 o10
    go_wp2_with fail
    refine (heldIntS_any 1 _ _ _ _ r4.seq (by omega) (by omega)).mono ?_
    rintro e w11 ⟨rfl, rfl⟩
    go_wp2_with fail
    refine (toIntS_any A n c l _ (hA.below B10) (by omega)).mono ?_
    rintro e w12 ⟨rfl, h12, b12⟩
    have B12 := B10.trans (b12.mono B10.size)
    have r2 := r2.below b12
    have r4 := r4.below b12
    go_wp2_with fail
    refine (iExtMask_any _ n n l _ h12.range.ints (by omega)).mono ?_
    rintro e w13 ⟨v13, rfl, h13, b13⟩
    have B13 := B12.trans (b13.mono B12.size)
    have r2 := r2.below b13
    have r4 := r4.below b13
    have r13 := h13.range
    obtain ⟨a13, c13, rfl⟩ := r13.reads
    go_wp2_with fail
    refine (eqIntS_any _ _ _ _ _ _ _ r13.ints r2.ints (by omega)).mono ?_
    rintro e w14 ⟨rfl, b14⟩
    have B14 := B13.trans (b14.mono B13.size)
    have r4 := r4.below b14
    go_wp2_with fail
    refine (heldIntS_any 1 _ _ _ _ r4.seq (by omega) (by omega)).mono ?_
    rintro e w15 ⟨rfl, rfl⟩
    go_wp2_with fail
    go_ret
    exact ⟨rfl, B14⟩
end Go.Proofs.Ytakmgghjpompoaa

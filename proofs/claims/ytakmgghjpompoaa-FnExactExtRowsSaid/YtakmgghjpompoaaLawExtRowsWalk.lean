/- The walk of the law FnExactExtRows. Printed by laws2.py. -/
import Derived.Test.YtakmgghjpompoaaExtRows
import Derived.Test.YtakmgghjpompoaaHk
namespace Go.Proofs.Ytakmgghjpompoaa
set_option linter.unusedSimpArgs false
set_option linter.unusedVariables false
open Go.RowKit
set_option maxRecDepth 100000 in
set_option maxHeartbeats 2000000 in
theorem walk_FnExactExtRows (tI0 : Int) (tI1 : Int) (nI0 : Int) (w : World)  :
    Calls Try.prog 19 #[.agg #[.int .i64 tI0, .int .i64 tI1], .int .i64 nI0] w fun e w' => e = .returned (.bool true) ∧ Below w.heap.size w w' := by
  have rL0_0n : (extRowsL tI0 tI1 nI0).length ≤ 1048576 := by have := extRows_len tI0 tI1 nI0; omega
  go_enter Try.func19, Try.ntmps19
  go_wp2_with fail
  refine (toTape_L tI0 tI1).mono ?_
  rintro e w1 ⟨rfl, b1⟩
  have z1 := b1.size
  try simp only [World.size_alloc, World.size_setCell] at z1
  have B1 : Below w.heap.size w w1 := Below.trans (b := _) (by repeat (with_reducible (first | assumption | exact Below.refl _ _ | refine Below.alloc ?_ (by first | omega | (simp; done) | (simp; omega)) _ | refine Below.setCell ?_ (by first | omega | (simp; done) | (simp; omega)) _ | refine Below.drew ?_ | refine below_drewN ?_ _))) (b1.mono (by first | omega | (simp; done) | (simp; omega)))
  have pt_ : Box w1 (w.heap.size) #[.int .i64 tI0, .int .i64 tI1] 64 := (Box.new (g := w.heap.size) _ #[.int .i64 tI0, .int .i64 tI1] 64 (by simp)).below b1 (by first | omega | (simp; done) | (simp; omega))
  have pt := pt_; clear pt_
  go_wp2_with fail
  refine (sExtRows_L tI0 tI1 nI0).mono ?_
  rintro e w2 ⟨w0V0, rfl, rw0, b2⟩
  have z2 := b2.size
  try simp only [World.size_alloc, World.size_setCell] at z2
  have B2 : Below w.heap.size w w2 := Below.trans (b := _) (by repeat (with_reducible (first | assumption | exact Below.refl _ _ | refine Below.alloc ?_ (by first | omega | (simp; done) | (simp; omega)) _ | refine Below.setCell ?_ (by first | omega | (simp; done) | (simp; omega)) _ | refine Below.drew ?_ | refine below_drewN ?_ _))) (b2.mono (by first | omega | (simp; done) | (simp; omega)))
  have pt_ : Box w2 (w.heap.size) #[.int .i64 tI0, .int .i64 tI1] 64 := pt.below b2 (by first | omega | (simp; done) | (simp; omega))
  clear pt; have pt := pt_; clear pt_
  try simp only [World.size_alloc, World.size_setCell] at rw0
  obtain ⟨cpt_0, cpt_1, fpt_0, fpt_1⟩ := pt.two
  have l_pt_0 : w.heap.size < w2.heap.size := by omega
  have l_pt_1 : w.heap.size < w2.heap.size + 1 := by omega
  go_wp2_with fail
  refine (toTape_L tI0 tI1).mono ?_
  rintro e w3 ⟨rfl, b3⟩
  clear cpt_0 cpt_1 fpt_0 fpt_1 l_pt_0 l_pt_1
  have z3 := b3.size
  try simp only [World.size_alloc, World.size_setCell] at z3
  have B3 : Below w.heap.size w w3 := Below.trans (b := _) (by repeat (with_reducible (first | assumption | exact Below.refl _ _ | refine Below.alloc ?_ (by first | omega | (simp; done) | (simp; omega)) _ | refine Below.setCell ?_ (by first | omega | (simp; done) | (simp; omega)) _ | refine Below.drew ?_ | refine below_drewN ?_ _))) (b3.mono (by first | omega | (simp; done) | (simp; omega)))
  have rw0_ := (rw0.alloc _).below b3
  clear rw0; have rw0 := rw0_; clear rw0_
  have pt_ : Box w3 (w.heap.size) #[.int .i64 tI0, .int .i64 tI1] 64 := (pt.alloc _).below b3 (by first | omega | (simp; done) | (simp; omega))
  clear pt; have pt := pt_; clear pt_
  have kw1_ : Box w3 (w2.heap.size) #[.int .i64 tI0, .int .i64 (extRowsN tI0 tI1 nI0)] 65 := (Box.new (g := w2.heap.size) _ #[.int .i64 tI0, .int .i64 (extRowsN tI0 tI1 nI0)] 65 (by simp)).below b3 (by first | omega | (simp; done) | (simp; omega))
  have kw1 := kw1_; clear kw1_
  go_wp2_with fail
  refine (iExtRows_L tI0 tI1 nI0).mono ?_
  rintro e w4 ⟨g0V0, rfl, rg0, b4⟩
  have z4 := b4.size
  try simp only [World.size_alloc, World.size_setCell] at z4
  have B4 : Below w.heap.size w w4 := Below.trans (b := _) (by repeat (with_reducible (first | assumption | exact Below.refl _ _ | refine Below.alloc ?_ (by first | omega | (simp; done) | (simp; omega)) _ | refine Below.setCell ?_ (by first | omega | (simp; done) | (simp; omega)) _ | refine Below.drew ?_ | refine below_drewN ?_ _))) (b4.mono (by first | omega | (simp; done) | (simp; omega)))
  have rw0_ := rw0.below b4
  clear rw0; have rw0 := rw0_; clear rw0_
  have pt_ : Box w4 (w.heap.size) #[.int .i64 tI0, .int .i64 tI1] 64 := pt.below b4 (by first | omega | (simp; done) | (simp; omega))
  clear pt; have pt := pt_; clear pt_
  have kw1_ : Box w4 (w2.heap.size) #[.int .i64 tI0, .int .i64 (extRowsN tI0 tI1 nI0)] 65 := kw1.below b4 (by first | omega | (simp; done) | (simp; omega))
  clear kw1; have kw1 := kw1_; clear kw1_
  try simp only [World.size_alloc, World.size_setCell] at rg0
  go_wp2_with fail
  refine (eqIntS_L (rg0.alloc _).rd (rw0.alloc _).rd rL0_0n).mono ?_
  rintro e w5 ⟨rfl, b5⟩
  have z5 := b5.size
  try simp only [World.size_alloc, World.size_setCell] at z5
  have B5 : Below w.heap.size w w5 := Below.trans (b := _) (by repeat (with_reducible (first | assumption | exact Below.refl _ _ | refine Below.alloc ?_ (by first | omega | (simp; done) | (simp; omega)) _ | refine Below.setCell ?_ (by first | omega | (simp; done) | (simp; omega)) _ | refine Below.drew ?_ | refine below_drewN ?_ _))) (b5.mono (by first | omega | (simp; done) | (simp; omega)))
  have rw0_ := (rw0.alloc _).below b5
  clear rw0; have rw0 := rw0_; clear rw0_
  have rg0_ := (rg0.alloc _).below b5
  clear rg0; have rg0 := rg0_; clear rg0_
  have pt_ : Box w5 (w.heap.size) #[.int .i64 tI0, .int .i64 tI1] 64 := (pt.alloc _).below b5 (by first | omega | (simp; done) | (simp; omega))
  clear pt; have pt := pt_; clear pt_
  have kw1_ : Box w5 (w2.heap.size) #[.int .i64 tI0, .int .i64 (extRowsN tI0 tI1 nI0)] 65 := (kw1.alloc _).below b5 (by first | omega | (simp; done) | (simp; omega))
  clear kw1; have kw1 := kw1_; clear kw1_
  have kg1_ : Box w5 (w4.heap.size) #[.int .i64 tI0, .int .i64 (extRowsN tI0 tI1 nI0)] 65 := (Box.new (g := w4.heap.size) _ #[.int .i64 tI0, .int .i64 (extRowsN tI0 tI1 nI0)] 65 (by simp)).below b5 (by first | omega | (simp; done) | (simp; omega))
  have kg1 := kg1_; clear kg1_
  obtain ⟨ckg1_0, ckg1_1, fkg1_0, fkg1_1⟩ := kg1.two
  have l_kg1_0 : w4.heap.size < w5.heap.size := by omega
  obtain ⟨ckw1_0, ckw1_1, fkw1_0, fkw1_1⟩ := kw1.two
  have l_kw1_0 : w2.heap.size < w5.heap.size := by omega
  go_wp2_with fail
  refine (eqTape_L tI0 (extRowsN tI0 tI1 nI0)).mono ?_
  rintro e w6 ⟨rfl, b6⟩
  clear ckg1_0 ckg1_1 fkg1_0 fkg1_1 l_kg1_0 ckw1_0 ckw1_1 fkw1_0 fkw1_1 l_kw1_0
  have z6 := b6.size
  try simp only [World.size_alloc, World.size_setCell] at z6
  have B6 : Below w.heap.size w w6 := Below.trans (b := _) (by repeat (with_reducible (first | assumption | exact Below.refl _ _ | refine Below.alloc ?_ (by first | omega | (simp; done) | (simp; omega)) _ | refine Below.setCell ?_ (by first | omega | (simp; done) | (simp; omega)) _ | refine Below.drew ?_ | refine below_drewN ?_ _))) (b6.mono (by first | omega | (simp; done) | (simp; omega)))
  have rw0_ := rw0.below b6
  clear rw0; have rw0 := rw0_; clear rw0_
  have rg0_ := rg0.below b6
  clear rg0; have rg0 := rg0_; clear rg0_
  have pt_ : Box w6 (w.heap.size) #[.int .i64 tI0, .int .i64 tI1] 64 := pt.below b6 (by first | omega | (simp; done) | (simp; omega))
  clear pt; have pt := pt_; clear pt_
  have kw1_ : Box w6 (w2.heap.size) #[.int .i64 tI0, .int .i64 (extRowsN tI0 tI1 nI0)] 65 := kw1.below b6 (by first | omega | (simp; done) | (simp; omega))
  clear kw1; have kw1 := kw1_; clear kw1_
  have kg1_ : Box w6 (w4.heap.size) #[.int .i64 tI0, .int .i64 (extRowsN tI0 tI1 nI0)] 65 := kg1.below b6 (by first | omega | (simp; done) | (simp; omega))
  clear kg1; have kg1 := kg1_; clear kg1_
  go_wp2_with fail
  refine (markIntS_L (pre := []) (post := []) (1) _ rg0 (by first | omega | (simp; done) | (simp; omega)) (by omega) rL0_0n).mono ?_
  rintro e w7 ⟨rfl, rg0, c7⟩
  have z7 := c7.size
  try simp only [World.size_alloc, World.size_setCell] at z7
  have rw0_ := rw0.away c7 (by omega)
  clear rw0; have rw0 := rw0_; clear rw0_
  have pt_ : Box w7 (w.heap.size) #[.int .i64 tI0, .int .i64 tI1] 64 := pt.chg c7 (by omega)
  clear pt; have pt := pt_; clear pt_
  have kw1_ : Box w7 (w2.heap.size) #[.int .i64 tI0, .int .i64 (extRowsN tI0 tI1 nI0)] 65 := kw1.chg c7 (by omega)
  clear kw1; have kw1 := kw1_; clear kw1_
  have kg1_ : Box w7 (w4.heap.size) #[.int .i64 tI0, .int .i64 (extRowsN tI0 tI1 nI0)] 65 := kg1.chg c7 (by omega)
  clear kg1; have kg1 := kg1_; clear kg1_
  have B7 : Below w.heap.size w w7 := B6.trans (c7.below (by omega) (by omega))
  go_wp2_with fail
  refine (heldIntS_L (extRowsL tI0 tI1 nI0).length (1) _ rg0.rd (by first | omega | (simp; done) | (simp; omega)) (by omega) rL0_0n).mono ?_
  rintro e w_ ⟨rfl, rfl⟩
  obtain ⟨cpt_0, cpt_1, fpt_0, fpt_1⟩ := pt.two
  have l_pt_0 : w.heap.size < w7.heap.size := by omega
  go_wp2_with fail
  refine (toTape_L tI0 tI1).mono ?_
  rintro e w8 ⟨rfl, b8⟩
  clear cpt_0 cpt_1 fpt_0 fpt_1 l_pt_0
  have z8 := b8.size
  try simp only [World.size_alloc, World.size_setCell] at z8
  have B8 : Below w.heap.size w w8 := Below.trans (b := _) (by repeat (with_reducible (first | assumption | exact Below.refl _ _ | refine Below.alloc ?_ (by first | omega | (simp; done) | (simp; omega)) _ | refine Below.setCell ?_ (by first | omega | (simp; done) | (simp; omega)) _ | refine Below.drew ?_ | refine below_drewN ?_ _))) (b8.mono (by first | omega | (simp; done) | (simp; omega)))
  have rw0_ := rw0.below b8
  clear rw0; have rw0 := rw0_; clear rw0_
  have rg0_ := rg0.below b8
  clear rg0; have rg0 := rg0_; clear rg0_
  have pt_ : Box w8 (w.heap.size) #[.int .i64 tI0, .int .i64 tI1] 64 := pt.below b8 (by first | omega | (simp; done) | (simp; omega))
  clear pt; have pt := pt_; clear pt_
  have kw1_ : Box w8 (w2.heap.size) #[.int .i64 tI0, .int .i64 (extRowsN tI0 tI1 nI0)] 65 := kw1.below b8 (by first | omega | (simp; done) | (simp; omega))
  clear kw1; have kw1 := kw1_; clear kw1_
  have kg1_ : Box w8 (w4.heap.size) #[.int .i64 tI0, .int .i64 (extRowsN tI0 tI1 nI0)] 65 := kg1.below b8 (by first | omega | (simp; done) | (simp; omega))
  clear kg1; have kg1 := kg1_; clear kg1_
  go_wp2_with fail
  refine (iExtRows_L tI0 tI1 nI0).mono ?_
  rintro e w9 ⟨h0V0, rfl, rh0, b9⟩
  have z9 := b9.size
  try simp only [World.size_alloc, World.size_setCell] at z9
  have B9 : Below w.heap.size w w9 := Below.trans (b := _) (by repeat (with_reducible (first | assumption | exact Below.refl _ _ | refine Below.alloc ?_ (by first | omega | (simp; done) | (simp; omega)) _ | refine Below.setCell ?_ (by first | omega | (simp; done) | (simp; omega)) _ | refine Below.drew ?_ | refine below_drewN ?_ _))) (b9.mono (by first | omega | (simp; done) | (simp; omega)))
  have rw0_ := rw0.below b9
  clear rw0; have rw0 := rw0_; clear rw0_
  have rg0_ := rg0.below b9
  clear rg0; have rg0 := rg0_; clear rg0_
  have pt_ : Box w9 (w.heap.size) #[.int .i64 tI0, .int .i64 tI1] 64 := pt.below b9 (by first | omega | (simp; done) | (simp; omega))
  clear pt; have pt := pt_; clear pt_
  have kw1_ : Box w9 (w2.heap.size) #[.int .i64 tI0, .int .i64 (extRowsN tI0 tI1 nI0)] 65 := kw1.below b9 (by first | omega | (simp; done) | (simp; omega))
  clear kw1; have kw1 := kw1_; clear kw1_
  have kg1_ : Box w9 (w4.heap.size) #[.int .i64 tI0, .int .i64 (extRowsN tI0 tI1 nI0)] 65 := kg1.below b9 (by first | omega | (simp; done) | (simp; omega))
  clear kg1; have kg1 := kg1_; clear kg1_
  try simp only [World.size_alloc, World.size_setCell] at rh0
  go_wp2_with fail
  refine (eqIntS_L (rh0.alloc _).rd (rw0.alloc _).rd rL0_0n).mono ?_
  rintro e w10 ⟨rfl, b10⟩
  have z10 := b10.size
  try simp only [World.size_alloc, World.size_setCell] at z10
  have B10 : Below w.heap.size w w10 := Below.trans (b := _) (by repeat (with_reducible (first | assumption | exact Below.refl _ _ | refine Below.alloc ?_ (by first | omega | (simp; done) | (simp; omega)) _ | refine Below.setCell ?_ (by first | omega | (simp; done) | (simp; omega)) _ | refine Below.drew ?_ | refine below_drewN ?_ _))) (b10.mono (by first | omega | (simp; done) | (simp; omega)))
  have rw0_ := (rw0.alloc _).below b10
  clear rw0; have rw0 := rw0_; clear rw0_
  have rg0_ := (rg0.alloc _).below b10
  clear rg0; have rg0 := rg0_; clear rg0_
  have rh0_ := (rh0.alloc _).below b10
  clear rh0; have rh0 := rh0_; clear rh0_
  have pt_ : Box w10 (w.heap.size) #[.int .i64 tI0, .int .i64 tI1] 64 := (pt.alloc _).below b10 (by first | omega | (simp; done) | (simp; omega))
  clear pt; have pt := pt_; clear pt_
  have kw1_ : Box w10 (w2.heap.size) #[.int .i64 tI0, .int .i64 (extRowsN tI0 tI1 nI0)] 65 := (kw1.alloc _).below b10 (by first | omega | (simp; done) | (simp; omega))
  clear kw1; have kw1 := kw1_; clear kw1_
  have kg1_ : Box w10 (w4.heap.size) #[.int .i64 tI0, .int .i64 (extRowsN tI0 tI1 nI0)] 65 := (kg1.alloc _).below b10 (by first | omega | (simp; done) | (simp; omega))
  clear kg1; have kg1 := kg1_; clear kg1_
  have kh1_ : Box w10 (w9.heap.size) #[.int .i64 tI0, .int .i64 (extRowsN tI0 tI1 nI0)] 65 := (Box.new (g := w9.heap.size) _ #[.int .i64 tI0, .int .i64 (extRowsN tI0 tI1 nI0)] 65 (by simp)).below b10 (by first | omega | (simp; done) | (simp; omega))
  have kh1 := kh1_; clear kh1_
  obtain ⟨ckh1_0, ckh1_1, fkh1_0, fkh1_1⟩ := kh1.two
  have l_kh1_0 : w9.heap.size < w10.heap.size := by omega
  obtain ⟨ckw1_0, ckw1_1, fkw1_0, fkw1_1⟩ := kw1.two
  have l_kw1_0 : w2.heap.size < w10.heap.size := by omega
  go_wp2_with fail
  refine (eqTape_L tI0 (extRowsN tI0 tI1 nI0)).mono ?_
  rintro e w11 ⟨rfl, b11⟩
  clear ckh1_0 ckh1_1 fkh1_0 fkh1_1 l_kh1_0 ckw1_0 ckw1_1 fkw1_0 fkw1_1 l_kw1_0
  have z11 := b11.size
  try simp only [World.size_alloc, World.size_setCell] at z11
  have B11 : Below w.heap.size w w11 := Below.trans (b := _) (by repeat (with_reducible (first | assumption | exact Below.refl _ _ | refine Below.alloc ?_ (by first | omega | (simp; done) | (simp; omega)) _ | refine Below.setCell ?_ (by first | omega | (simp; done) | (simp; omega)) _ | refine Below.drew ?_ | refine below_drewN ?_ _))) (b11.mono (by first | omega | (simp; done) | (simp; omega)))
  have rw0_ := rw0.below b11
  clear rw0; have rw0 := rw0_; clear rw0_
  have rg0_ := rg0.below b11
  clear rg0; have rg0 := rg0_; clear rg0_
  have rh0_ := rh0.below b11
  clear rh0; have rh0 := rh0_; clear rh0_
  have pt_ : Box w11 (w.heap.size) #[.int .i64 tI0, .int .i64 tI1] 64 := pt.below b11 (by first | omega | (simp; done) | (simp; omega))
  clear pt; have pt := pt_; clear pt_
  have kw1_ : Box w11 (w2.heap.size) #[.int .i64 tI0, .int .i64 (extRowsN tI0 tI1 nI0)] 65 := kw1.below b11 (by first | omega | (simp; done) | (simp; omega))
  clear kw1; have kw1 := kw1_; clear kw1_
  have kg1_ : Box w11 (w4.heap.size) #[.int .i64 tI0, .int .i64 (extRowsN tI0 tI1 nI0)] 65 := kg1.below b11 (by first | omega | (simp; done) | (simp; omega))
  clear kg1; have kg1 := kg1_; clear kg1_
  have kh1_ : Box w11 (w9.heap.size) #[.int .i64 tI0, .int .i64 (extRowsN tI0 tI1 nI0)] 65 := kh1.below b11 (by first | omega | (simp; done) | (simp; omega))
  clear kh1; have kh1 := kh1_; clear kh1_
  go_wp2_with fail
  refine (heldIntS_L (extRowsL tI0 tI1 nI0).length (1) _ rg0.rd (by first | omega | (simp; done) | (simp; omega)) (by omega) rL0_0n).mono ?_
  rintro e w_ ⟨rfl, rfl⟩
  go_wp2_with fail
  go_ret
  exact ⟨rfl, B11⟩
end Go.Proofs.Ytakmgghjpompoaa

/- The walk of the law FnExactOtDeal. Printed by laws2.py. -/
import Derived.Test.YtakmgghjpompoaaOtDealL
import Derived.Test.YtakmgghjpompoaaHk
namespace Go.Proofs.Ytakmgghjpompoaa
set_option linter.unusedSimpArgs false
set_option linter.unusedVariables false
open Go.RowKit
set_option maxRecDepth 100000 in
set_option maxHeartbeats 2000000 in
theorem walk_FnExactOtDeal (tI0 : Int) (tI1 : Int) (w : World)  :
    Calls Try.prog 16 #[.agg #[.int .i64 tI0, .int .i64 tI1]] w fun e w' => e = .returned (.bool true) ∧ Below w.heap.size w w' := by
  go_enter Try.func16, Try.ntmps16
  go_wp2_with fail
  refine (toTape_L tI0 tI1).mono ?_
  rintro e w1 ⟨rfl, b1⟩
  have z1 := b1.size
  try simp only [World.size_alloc, World.size_setCell] at z1
  have B1 : Below w.heap.size w w1 := Below.trans (b := _) (by repeat (with_reducible (first | assumption | exact Below.refl _ _ | refine Below.alloc ?_ (by first | omega | (simp; done) | (simp; omega)) _ | refine Below.setCell ?_ (by first | omega | (simp; done) | (simp; omega)) _ | refine Below.drew ?_ | refine below_drewN ?_ _))) (b1.mono (by first | omega | (simp; done) | (simp; omega)))
  have pt_ : Box w1 (w.heap.size) #[.int .i64 tI0, .int .i64 tI1] 64 := (Box.new (g := w.heap.size) _ #[.int .i64 tI0, .int .i64 tI1] 64 (by simp)).below b1 (by first | omega | (simp; done) | (simp; omega))
  have pt := pt_; clear pt_
  go_wp2_with fail
  refine (sOtDeal_L tI0 tI1).mono ?_
  rintro e w2 ⟨rfl, b2⟩
  have z2 := b2.size
  try simp only [World.size_alloc, World.size_setCell] at z2
  have B2 : Below w.heap.size w w2 := Below.trans (b := _) (by repeat (with_reducible (first | assumption | exact Below.refl _ _ | refine Below.alloc ?_ (by first | omega | (simp; done) | (simp; omega)) _ | refine Below.setCell ?_ (by first | omega | (simp; done) | (simp; omega)) _ | refine Below.drew ?_ | refine below_drewN ?_ _))) (b2.mono (by first | omega | (simp; done) | (simp; omega)))
  have pt_ : Box w2 (w.heap.size) #[.int .i64 tI0, .int .i64 tI1] 64 := pt.below b2 (by first | omega | (simp; done) | (simp; omega))
  clear pt; have pt := pt_; clear pt_
  obtain ⟨cpt_0, cpt_1, fpt_0, fpt_1⟩ := pt.two
  have l_pt_0 : w.heap.size < w2.heap.size := by omega
  have l_pt_1 : w.heap.size < w2.heap.size + 1 := by omega
  have l_pt_2 : w.heap.size < w2.heap.size + 1 + 1 := by omega
  have l_pt_3 : w.heap.size < w2.heap.size + 1 + 1 + 1 := by omega
  go_wp2_with fail
  refine (toTape_L tI0 tI1).mono ?_
  rintro e w3 ⟨rfl, b3⟩
  clear cpt_0 cpt_1 fpt_0 fpt_1 l_pt_0 l_pt_1 l_pt_2 l_pt_3
  have z3 := b3.size
  try simp only [World.size_alloc, World.size_setCell] at z3
  have B3 : Below w.heap.size w w3 := Below.trans (b := _) (by repeat (with_reducible (first | assumption | exact Below.refl _ _ | refine Below.alloc ?_ (by first | omega | (simp; done) | (simp; omega)) _ | refine Below.setCell ?_ (by first | omega | (simp; done) | (simp; omega)) _ | refine Below.drew ?_ | refine below_drewN ?_ _))) (b3.mono (by first | omega | (simp; done) | (simp; omega)))
  have pt_ : Box w3 (w.heap.size) #[.int .i64 tI0, .int .i64 tI1] 64 := (((pt.alloc _).alloc _).alloc _).below b3 (by first | omega | (simp; done) | (simp; omega))
  clear pt; have pt := pt_; clear pt_
  have kw0_ : Box w3 (w2.heap.size) #[.int .i64 (dA tI0 tI1), .int .i64 (dB tI0 tI1)] 46 := (((Box.new (g := w2.heap.size) _ #[.int .i64 (dA tI0 tI1), .int .i64 (dB tI0 tI1)] 46 (by simp)).alloc _).alloc _).below b3 (by first | omega | (simp; done) | (simp; omega))
  have kw0 := kw0_; clear kw0_
  have kw1_ : Box w3 (w2.heap.size + 1) #[.int .i64 (dK tI0 tI1), .int .i64 (dR tI0 tI1)] 31 := ((Box.new (g := w2.heap.size + 1) _ #[.int .i64 (dK tI0 tI1), .int .i64 (dR tI0 tI1)] 31 (by simp)).alloc _).below b3 (by first | omega | (simp; done) | (simp; omega))
  have kw1 := kw1_; clear kw1_
  have kw2_ : Box w3 (w2.heap.size + 1 + 1) #[.int .i64 tI0, .int .i64 (dT3 tI0 tI1)] 65 := (Box.new (g := w2.heap.size + 1 + 1) _ #[.int .i64 tI0, .int .i64 (dT3 tI0 tI1)] 65 (by simp)).below b3 (by first | omega | (simp; done) | (simp; omega))
  have kw2 := kw2_; clear kw2_
  go_wp2_with fail
  refine (iOtDeal_L tI0 tI1).mono ?_
  rintro e w4 ⟨rfl, b4⟩
  have z4 := b4.size
  try simp only [World.size_alloc, World.size_setCell] at z4
  have B4 : Below w.heap.size w w4 := Below.trans (b := _) (by repeat (with_reducible (first | assumption | exact Below.refl _ _ | refine Below.alloc ?_ (by first | omega | (simp; done) | (simp; omega)) _ | refine Below.setCell ?_ (by first | omega | (simp; done) | (simp; omega)) _ | refine Below.drew ?_ | refine below_drewN ?_ _))) (b4.mono (by first | omega | (simp; done) | (simp; omega)))
  have pt_ : Box w4 (w.heap.size) #[.int .i64 tI0, .int .i64 tI1] 64 := pt.below b4 (by first | omega | (simp; done) | (simp; omega))
  clear pt; have pt := pt_; clear pt_
  have kw0_ : Box w4 (w2.heap.size) #[.int .i64 (dA tI0 tI1), .int .i64 (dB tI0 tI1)] 46 := kw0.below b4 (by first | omega | (simp; done) | (simp; omega))
  clear kw0; have kw0 := kw0_; clear kw0_
  have kw1_ : Box w4 (w2.heap.size + 1) #[.int .i64 (dK tI0 tI1), .int .i64 (dR tI0 tI1)] 31 := kw1.below b4 (by first | omega | (simp; done) | (simp; omega))
  clear kw1; have kw1 := kw1_; clear kw1_
  have kw2_ : Box w4 (w2.heap.size + 1 + 1) #[.int .i64 tI0, .int .i64 (dT3 tI0 tI1)] 65 := kw2.below b4 (by first | omega | (simp; done) | (simp; omega))
  clear kw2; have kw2 := kw2_; clear kw2_
  obtain ⟨ckw0_0, ckw0_1, fkw0_0, fkw0_1⟩ := kw0.two
  have l_kw0_0 : w2.heap.size < w4.heap.size := by omega
  have l_kw0_1 : w2.heap.size < w4.heap.size + 1 := by omega
  have l_kw0_2 : w2.heap.size < w4.heap.size + 1 + 1 := by omega
  have l_kw0_3 : w2.heap.size < w4.heap.size + 1 + 1 + 1 := by omega
  go_wp2_with fail
  refine (eqOtSender_L (dA tI0 tI1) (dB tI0 tI1)).mono ?_
  rintro e w5 ⟨rfl, b5⟩
  clear ckw0_0 ckw0_1 fkw0_0 fkw0_1 l_kw0_0 l_kw0_1 l_kw0_2 l_kw0_3
  have z5 := b5.size
  try simp only [World.size_alloc, World.size_setCell] at z5
  have B5 : Below w.heap.size w w5 := Below.trans (b := _) (by repeat (with_reducible (first | assumption | exact Below.refl _ _ | refine Below.alloc ?_ (by first | omega | (simp; done) | (simp; omega)) _ | refine Below.setCell ?_ (by first | omega | (simp; done) | (simp; omega)) _ | refine Below.drew ?_ | refine below_drewN ?_ _))) (b5.mono (by first | omega | (simp; done) | (simp; omega)))
  have pt_ : Box w5 (w.heap.size) #[.int .i64 tI0, .int .i64 tI1] 64 := (((pt.alloc _).alloc _).alloc _).below b5 (by first | omega | (simp; done) | (simp; omega))
  clear pt; have pt := pt_; clear pt_
  have kw0_ : Box w5 (w2.heap.size) #[.int .i64 (dA tI0 tI1), .int .i64 (dB tI0 tI1)] 46 := (((kw0.alloc _).alloc _).alloc _).below b5 (by first | omega | (simp; done) | (simp; omega))
  clear kw0; have kw0 := kw0_; clear kw0_
  have kw1_ : Box w5 (w2.heap.size + 1) #[.int .i64 (dK tI0 tI1), .int .i64 (dR tI0 tI1)] 31 := (((kw1.alloc _).alloc _).alloc _).below b5 (by first | omega | (simp; done) | (simp; omega))
  clear kw1; have kw1 := kw1_; clear kw1_
  have kw2_ : Box w5 (w2.heap.size + 1 + 1) #[.int .i64 tI0, .int .i64 (dT3 tI0 tI1)] 65 := (((kw2.alloc _).alloc _).alloc _).below b5 (by first | omega | (simp; done) | (simp; omega))
  clear kw2; have kw2 := kw2_; clear kw2_
  have kg0_ : Box w5 (w4.heap.size) #[.int .i64 (dA tI0 tI1), .int .i64 (dB tI0 tI1)] 46 := (((Box.new (g := w4.heap.size) _ #[.int .i64 (dA tI0 tI1), .int .i64 (dB tI0 tI1)] 46 (by simp)).alloc _).alloc _).below b5 (by first | omega | (simp; done) | (simp; omega))
  have kg0 := kg0_; clear kg0_
  have kg1_ : Box w5 (w4.heap.size + 1) #[.int .i64 (dK tI0 tI1), .int .i64 (dR tI0 tI1)] 31 := ((Box.new (g := w4.heap.size + 1) _ #[.int .i64 (dK tI0 tI1), .int .i64 (dR tI0 tI1)] 31 (by simp)).alloc _).below b5 (by first | omega | (simp; done) | (simp; omega))
  have kg1 := kg1_; clear kg1_
  have kg2_ : Box w5 (w4.heap.size + 1 + 1) #[.int .i64 tI0, .int .i64 (dT3 tI0 tI1)] 65 := (Box.new (g := w4.heap.size + 1 + 1) _ #[.int .i64 tI0, .int .i64 (dT3 tI0 tI1)] 65 (by simp)).below b5 (by first | omega | (simp; done) | (simp; omega))
  have kg2 := kg2_; clear kg2_
  obtain ⟨ckg1_0, ckg1_1, fkg1_0, fkg1_1⟩ := kg1.two
  have l_kg1_0 : w4.heap.size + 1 < w5.heap.size := by omega
  obtain ⟨ckw1_0, ckw1_1, fkw1_0, fkw1_1⟩ := kw1.two
  have l_kw1_0 : w2.heap.size + 1 < w5.heap.size := by omega
  go_wp2_with fail
  refine (eqOtReceiver_L (dK tI0 tI1) (dR tI0 tI1)).mono ?_
  rintro e w6 ⟨rfl, b6⟩
  clear ckg1_0 ckg1_1 fkg1_0 fkg1_1 l_kg1_0 ckw1_0 ckw1_1 fkw1_0 fkw1_1 l_kw1_0
  have z6 := b6.size
  try simp only [World.size_alloc, World.size_setCell] at z6
  have B6 : Below w.heap.size w w6 := Below.trans (b := _) (by repeat (with_reducible (first | assumption | exact Below.refl _ _ | refine Below.alloc ?_ (by first | omega | (simp; done) | (simp; omega)) _ | refine Below.setCell ?_ (by first | omega | (simp; done) | (simp; omega)) _ | refine Below.drew ?_ | refine below_drewN ?_ _))) (b6.mono (by first | omega | (simp; done) | (simp; omega)))
  have pt_ : Box w6 (w.heap.size) #[.int .i64 tI0, .int .i64 tI1] 64 := pt.below b6 (by first | omega | (simp; done) | (simp; omega))
  clear pt; have pt := pt_; clear pt_
  have kw0_ : Box w6 (w2.heap.size) #[.int .i64 (dA tI0 tI1), .int .i64 (dB tI0 tI1)] 46 := kw0.below b6 (by first | omega | (simp; done) | (simp; omega))
  clear kw0; have kw0 := kw0_; clear kw0_
  have kw1_ : Box w6 (w2.heap.size + 1) #[.int .i64 (dK tI0 tI1), .int .i64 (dR tI0 tI1)] 31 := kw1.below b6 (by first | omega | (simp; done) | (simp; omega))
  clear kw1; have kw1 := kw1_; clear kw1_
  have kw2_ : Box w6 (w2.heap.size + 1 + 1) #[.int .i64 tI0, .int .i64 (dT3 tI0 tI1)] 65 := kw2.below b6 (by first | omega | (simp; done) | (simp; omega))
  clear kw2; have kw2 := kw2_; clear kw2_
  have kg0_ : Box w6 (w4.heap.size) #[.int .i64 (dA tI0 tI1), .int .i64 (dB tI0 tI1)] 46 := kg0.below b6 (by first | omega | (simp; done) | (simp; omega))
  clear kg0; have kg0 := kg0_; clear kg0_
  have kg1_ : Box w6 (w4.heap.size + 1) #[.int .i64 (dK tI0 tI1), .int .i64 (dR tI0 tI1)] 31 := kg1.below b6 (by first | omega | (simp; done) | (simp; omega))
  clear kg1; have kg1 := kg1_; clear kg1_
  have kg2_ : Box w6 (w4.heap.size + 1 + 1) #[.int .i64 tI0, .int .i64 (dT3 tI0 tI1)] 65 := kg2.below b6 (by first | omega | (simp; done) | (simp; omega))
  clear kg2; have kg2 := kg2_; clear kg2_
  obtain ⟨ckg2_0, ckg2_1, fkg2_0, fkg2_1⟩ := kg2.two
  have l_kg2_0 : w4.heap.size + 1 + 1 < w6.heap.size := by omega
  obtain ⟨ckw2_0, ckw2_1, fkw2_0, fkw2_1⟩ := kw2.two
  have l_kw2_0 : w2.heap.size + 1 + 1 < w6.heap.size := by omega
  go_wp2_with fail
  refine (eqTape_L tI0 (dT3 tI0 tI1)).mono ?_
  rintro e w7 ⟨rfl, b7⟩
  clear ckg2_0 ckg2_1 fkg2_0 fkg2_1 l_kg2_0 ckw2_0 ckw2_1 fkw2_0 fkw2_1 l_kw2_0
  have z7 := b7.size
  try simp only [World.size_alloc, World.size_setCell] at z7
  have B7 : Below w.heap.size w w7 := Below.trans (b := _) (by repeat (with_reducible (first | assumption | exact Below.refl _ _ | refine Below.alloc ?_ (by first | omega | (simp; done) | (simp; omega)) _ | refine Below.setCell ?_ (by first | omega | (simp; done) | (simp; omega)) _ | refine Below.drew ?_ | refine below_drewN ?_ _))) (b7.mono (by first | omega | (simp; done) | (simp; omega)))
  have pt_ : Box w7 (w.heap.size) #[.int .i64 tI0, .int .i64 tI1] 64 := pt.below b7 (by first | omega | (simp; done) | (simp; omega))
  clear pt; have pt := pt_; clear pt_
  have kw0_ : Box w7 (w2.heap.size) #[.int .i64 (dA tI0 tI1), .int .i64 (dB tI0 tI1)] 46 := kw0.below b7 (by first | omega | (simp; done) | (simp; omega))
  clear kw0; have kw0 := kw0_; clear kw0_
  have kw1_ : Box w7 (w2.heap.size + 1) #[.int .i64 (dK tI0 tI1), .int .i64 (dR tI0 tI1)] 31 := kw1.below b7 (by first | omega | (simp; done) | (simp; omega))
  clear kw1; have kw1 := kw1_; clear kw1_
  have kw2_ : Box w7 (w2.heap.size + 1 + 1) #[.int .i64 tI0, .int .i64 (dT3 tI0 tI1)] 65 := kw2.below b7 (by first | omega | (simp; done) | (simp; omega))
  clear kw2; have kw2 := kw2_; clear kw2_
  have kg0_ : Box w7 (w4.heap.size) #[.int .i64 (dA tI0 tI1), .int .i64 (dB tI0 tI1)] 46 := kg0.below b7 (by first | omega | (simp; done) | (simp; omega))
  clear kg0; have kg0 := kg0_; clear kg0_
  have kg1_ : Box w7 (w4.heap.size + 1) #[.int .i64 (dK tI0 tI1), .int .i64 (dR tI0 tI1)] 31 := kg1.below b7 (by first | omega | (simp; done) | (simp; omega))
  clear kg1; have kg1 := kg1_; clear kg1_
  have kg2_ : Box w7 (w4.heap.size + 1 + 1) #[.int .i64 tI0, .int .i64 (dT3 tI0 tI1)] 65 := kg2.below b7 (by first | omega | (simp; done) | (simp; omega))
  clear kg2; have kg2 := kg2_; clear kg2_
  go_wp2_with fail
  go_ret
  exact ⟨rfl, B7⟩
end Go.Proofs.Ytakmgghjpompoaa

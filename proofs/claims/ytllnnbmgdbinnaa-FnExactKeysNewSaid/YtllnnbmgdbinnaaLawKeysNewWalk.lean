/- The walk of the law FnExactKeysNew. Printed by laws2.py. -/
import Derived.Test.YtllnnbmgdbinnaaKeysN
import Derived.Test.YtllnnbmgdbinnaaHk
import Derived.Test.YtllnnbmgdbinnaaAuto
namespace Go.Proofs.Ytllnnbmgdbinnaa
set_option linter.unusedSimpArgs false
set_option linter.unusedVariables false
open Go.RowKit
set_option maxRecDepth 100000 in
set_option maxHeartbeats 2000000 in
theorem walk_FnExactKeysNew (pI0 : Int) (nI0 : Int) (tI0 : Int) (tI1 : Int) (w : World)  :
    Calls Try.prog 10 #[.int .i64 pI0, .int .i64 nI0, .agg #[.int .i64 tI0, .int .i64 tI1]] w fun e w' => e = .returned (.bool true) ∧ Below w.heap.size w w' := by
  have rL0_0n : (kL pI0 nI0 tI0 tI1).length ≤ 1048576 := Nat.le_trans (kL_len _ _ _ _) (by omega)
  go_enter Try.func10, Try.ntmps10
  go_wp2_with fail
  refine (toTape_L tI0 tI1).mono ?_
  rintro e w1 ⟨rfl, b1⟩
  have z1 := b1.size
  try simp only [World.size_alloc, World.size_setCell, size_drew] at z1
  have B1 : Below w.heap.size w w1 := Below.t b1
  have pt_ : Box w1 (w.heap.size) #[.int .i64 tI0, .int .i64 tI1] 51 := (Box.new (g := w.heap.size) _ #[.int .i64 tI0, .int .i64 tI1] 51 (by simp)).below b1 (by first | omega | (simp [size_drew]; done) | (simp [size_drew]; omega))
  have pt := pt_; clear pt_
  go_wp2_with fail
  refine (sKeysNew_L pI0 nI0 tI0 tI1).mono ?_
  rintro e w2 ⟨w0A0, w0n0, w0c0, rfl, rw0, b2⟩
  have z2 := b2.size
  try simp only [World.size_alloc, World.size_setCell, size_drew] at z2
  have B2 : Below w.heap.size w w2 := Below.t b2
  have pt_ : Box w2 (w.heap.size) #[.int .i64 tI0, .int .i64 tI1] 51 := pt.below b2 (by first | omega | (simp [size_drew]; done) | (simp [size_drew]; omega))
  clear pt; have pt := pt_; clear pt_
  try simp only [World.size_alloc, World.size_setCell, size_drew] at rw0
  obtain ⟨cpt_0, cpt_1, fpt_0, fpt_1⟩ := pt.two
  have l_pt_0 : w.heap.size < w2.heap.size := by omega
  have l_pt_1 : w.heap.size < w2.heap.size + 1 := by omega
  have l_pt_2 : w.heap.size < w2.heap.size + 1 + 1 := by omega
  go_wp2_with fail
  refine (toTape_L tI0 tI1).mono ?_
  rintro e w3 ⟨rfl, b3⟩
  clear cpt_0 cpt_1 fpt_0 fpt_1 l_pt_0 l_pt_1 l_pt_2
  have z3 := b3.size
  try simp only [World.size_alloc, World.size_setCell, size_drew] at z3
  have B3 : Below w.heap.size w w3 := Below.t b3
  have rw0_ := ((rw0.alloc _).alloc _).below b3
  clear rw0; have rw0 := rw0_; clear rw0_
  have pt_ : Box w3 (w.heap.size) #[.int .i64 tI0, .int .i64 tI1] 51 := ((pt.alloc _).alloc _).below b3 (by first | omega | (simp [size_drew]; done) | (simp [size_drew]; omega))
  clear pt; have pt := pt_; clear pt_
  have kw0_ : Box w3 (w2.heap.size) #[.int .i64 (kP pI0 nI0 tI0 tI1), (.slice w0A0 w0n0 w0c0)] 33 := ((Box.new (g := w2.heap.size) _ #[.int .i64 (kP pI0 nI0 tI0 tI1), (.slice w0A0 w0n0 w0c0)] 33 (by simp)).alloc _).below b3 (by first | omega | (simp [size_drew]; done) | (simp [size_drew]; omega))
  have kw0 := kw0_; clear kw0_
  have kw1_ : Box w3 (w2.heap.size + 1) #[.int .i64 tI0, .int .i64 (kT pI0 nI0 tI0 tI1)] 40 := (Box.new (g := w2.heap.size + 1) _ #[.int .i64 tI0, .int .i64 (kT pI0 nI0 tI0 tI1)] 40 (by simp)).below b3 (by first | omega | (simp [size_drew]; done) | (simp [size_drew]; omega))
  have kw1 := kw1_; clear kw1_
  go_wp2_with fail
  refine (iKeysNew_L pI0 nI0 tI0 tI1).mono ?_
  rintro e w4 ⟨g0A0, g0n0, g0c0, rfl, rg0, b4⟩
  have z4 := b4.size
  try simp only [World.size_alloc, World.size_setCell, size_drew] at z4
  have B4 : Below w.heap.size w w4 := Below.t b4
  have rw0_ := rw0.below b4
  clear rw0; have rw0 := rw0_; clear rw0_
  have pt_ : Box w4 (w.heap.size) #[.int .i64 tI0, .int .i64 tI1] 51 := pt.below b4 (by first | omega | (simp [size_drew]; done) | (simp [size_drew]; omega))
  clear pt; have pt := pt_; clear pt_
  have kw0_ : Box w4 (w2.heap.size) #[.int .i64 (kP pI0 nI0 tI0 tI1), (.slice w0A0 w0n0 w0c0)] 33 := kw0.below b4 (by first | omega | (simp [size_drew]; done) | (simp [size_drew]; omega))
  clear kw0; have kw0 := kw0_; clear kw0_
  have kw1_ : Box w4 (w2.heap.size + 1) #[.int .i64 tI0, .int .i64 (kT pI0 nI0 tI0 tI1)] 40 := kw1.below b4 (by first | omega | (simp [size_drew]; done) | (simp [size_drew]; omega))
  clear kw1; have kw1 := kw1_; clear kw1_
  try simp only [World.size_alloc, World.size_setCell, size_drew] at rg0
  obtain ⟨ckw0_0, ckw0_1, fkw0_0, fkw0_1⟩ := kw0.two
  have l_kw0_0 : w2.heap.size < w4.heap.size := by omega
  have l_kw0_1 : w2.heap.size < w4.heap.size + 1 := by omega
  have l_kw0_2 : w2.heap.size < w4.heap.size + 1 + 1 := by omega
  go_wp2_with fail
  refine (eqKeys_L (kP pI0 nI0 tI0 tI1) ((rg0.alloc _).alloc _).rd ((rw0.alloc _).alloc _).rd rL0_0n).mono ?_
  rintro e w5 ⟨rfl, b5⟩
  clear ckw0_0 ckw0_1 fkw0_0 fkw0_1 l_kw0_0 l_kw0_1 l_kw0_2
  have z5 := b5.size
  try simp only [World.size_alloc, World.size_setCell, size_drew] at z5
  have B5 : Below w.heap.size w w5 := Below.t b5
  have rw0_ := ((rw0.alloc _).alloc _).below b5
  clear rw0; have rw0 := rw0_; clear rw0_
  have rg0_ := ((rg0.alloc _).alloc _).below b5
  clear rg0; have rg0 := rg0_; clear rg0_
  have pt_ : Box w5 (w.heap.size) #[.int .i64 tI0, .int .i64 tI1] 51 := ((pt.alloc _).alloc _).below b5 (by first | omega | (simp [size_drew]; done) | (simp [size_drew]; omega))
  clear pt; have pt := pt_; clear pt_
  have kw0_ : Box w5 (w2.heap.size) #[.int .i64 (kP pI0 nI0 tI0 tI1), (.slice w0A0 w0n0 w0c0)] 33 := ((kw0.alloc _).alloc _).below b5 (by first | omega | (simp [size_drew]; done) | (simp [size_drew]; omega))
  clear kw0; have kw0 := kw0_; clear kw0_
  have kw1_ : Box w5 (w2.heap.size + 1) #[.int .i64 tI0, .int .i64 (kT pI0 nI0 tI0 tI1)] 40 := ((kw1.alloc _).alloc _).below b5 (by first | omega | (simp [size_drew]; done) | (simp [size_drew]; omega))
  clear kw1; have kw1 := kw1_; clear kw1_
  have kg0_ : Box w5 (w4.heap.size) #[.int .i64 (kP pI0 nI0 tI0 tI1), (.slice g0A0 g0n0 g0c0)] 33 := ((Box.new (g := w4.heap.size) _ #[.int .i64 (kP pI0 nI0 tI0 tI1), (.slice g0A0 g0n0 g0c0)] 33 (by simp)).alloc _).below b5 (by first | omega | (simp [size_drew]; done) | (simp [size_drew]; omega))
  have kg0 := kg0_; clear kg0_
  have kg1_ : Box w5 (w4.heap.size + 1) #[.int .i64 tI0, .int .i64 (kT pI0 nI0 tI0 tI1)] 40 := (Box.new (g := w4.heap.size + 1) _ #[.int .i64 tI0, .int .i64 (kT pI0 nI0 tI0 tI1)] 40 (by simp)).below b5 (by first | omega | (simp [size_drew]; done) | (simp [size_drew]; omega))
  have kg1 := kg1_; clear kg1_
  obtain ⟨ckg1_0, ckg1_1, fkg1_0, fkg1_1⟩ := kg1.two
  have l_kg1_0 : w4.heap.size + 1 < w5.heap.size := by omega
  obtain ⟨ckw1_0, ckw1_1, fkw1_0, fkw1_1⟩ := kw1.two
  have l_kw1_0 : w2.heap.size + 1 < w5.heap.size := by omega
  go_wp2_with fail
  refine (eqTape_L tI0 (kT pI0 nI0 tI0 tI1)).mono ?_
  rintro e w6 ⟨rfl, b6⟩
  clear ckg1_0 ckg1_1 fkg1_0 fkg1_1 l_kg1_0 ckw1_0 ckw1_1 fkw1_0 fkw1_1 l_kw1_0
  have z6 := b6.size
  try simp only [World.size_alloc, World.size_setCell, size_drew] at z6
  have B6 : Below w.heap.size w w6 := Below.t b6
  have rw0_ := rw0.below b6
  clear rw0; have rw0 := rw0_; clear rw0_
  have rg0_ := rg0.below b6
  clear rg0; have rg0 := rg0_; clear rg0_
  have pt_ : Box w6 (w.heap.size) #[.int .i64 tI0, .int .i64 tI1] 51 := pt.below b6 (by first | omega | (simp [size_drew]; done) | (simp [size_drew]; omega))
  clear pt; have pt := pt_; clear pt_
  have kw0_ : Box w6 (w2.heap.size) #[.int .i64 (kP pI0 nI0 tI0 tI1), (.slice w0A0 w0n0 w0c0)] 33 := kw0.below b6 (by first | omega | (simp [size_drew]; done) | (simp [size_drew]; omega))
  clear kw0; have kw0 := kw0_; clear kw0_
  have kw1_ : Box w6 (w2.heap.size + 1) #[.int .i64 tI0, .int .i64 (kT pI0 nI0 tI0 tI1)] 40 := kw1.below b6 (by first | omega | (simp [size_drew]; done) | (simp [size_drew]; omega))
  clear kw1; have kw1 := kw1_; clear kw1_
  have kg0_ : Box w6 (w4.heap.size) #[.int .i64 (kP pI0 nI0 tI0 tI1), (.slice g0A0 g0n0 g0c0)] 33 := kg0.below b6 (by first | omega | (simp [size_drew]; done) | (simp [size_drew]; omega))
  clear kg0; have kg0 := kg0_; clear kg0_
  have kg1_ : Box w6 (w4.heap.size + 1) #[.int .i64 tI0, .int .i64 (kT pI0 nI0 tI0 tI1)] 40 := kg1.below b6 (by first | omega | (simp [size_drew]; done) | (simp [size_drew]; omega))
  clear kg1; have kg1 := kg1_; clear kg1_
  obtain ⟨ckg0_0, ckg0_1, fkg0_0, fkg0_1⟩ := kg0.two
  have l_kg0_0 : w4.heap.size < w6.heap.size := by omega
  go_wp2_with fail
  refine (markKeys_L (kP pI0 nI0 tI0 tI1) (1) _ rg0 (by first | omega | (simp [size_drew]; done) | (simp [size_drew]; omega)) (by omega) rL0_0n).mono ?_
  rintro e w7 ⟨rfl, rg0, c7⟩
  clear ckg0_0 ckg0_1 fkg0_0 fkg0_1 l_kg0_0
  have z7 := c7.size
  try simp only [World.size_alloc, World.size_setCell, size_drew] at z7
  have rw0_ := rw0.away c7 (by omega)
  clear rw0; have rw0 := rw0_; clear rw0_
  have pt_ : Box w7 (w.heap.size) #[.int .i64 tI0, .int .i64 tI1] 51 := pt.chg c7 (by omega)
  clear pt; have pt := pt_; clear pt_
  have kw0_ : Box w7 (w2.heap.size) #[.int .i64 (kP pI0 nI0 tI0 tI1), (.slice w0A0 w0n0 w0c0)] 33 := kw0.chg c7 (by omega)
  clear kw0; have kw0 := kw0_; clear kw0_
  have kw1_ : Box w7 (w2.heap.size + 1) #[.int .i64 tI0, .int .i64 (kT pI0 nI0 tI0 tI1)] 40 := kw1.chg c7 (by omega)
  clear kw1; have kw1 := kw1_; clear kw1_
  have kg0_ : Box w7 (w4.heap.size) #[.int .i64 (kP pI0 nI0 tI0 tI1), (.slice g0A0 g0n0 g0c0)] 33 := kg0.chg c7 (by omega)
  clear kg0; have kg0 := kg0_; clear kg0_
  have kg1_ : Box w7 (w4.heap.size + 1) #[.int .i64 tI0, .int .i64 (kT pI0 nI0 tI0 tI1)] 40 := kg1.chg c7 (by omega)
  clear kg1; have kg1 := kg1_; clear kg1_
  have B7 : Below w.heap.size w w7 := B6.trans (c7.below (by omega) (by omega))
  obtain ⟨ckg0_0, ckg0_1, fkg0_0, fkg0_1⟩ := kg0.two
  have l_kg0_0 : w4.heap.size < w7.heap.size := by omega
  go_wp2_with fail
  refine (heldKeys_L (kL pI0 nI0 tI0 tI1).length (kP pI0 nI0 tI0 tI1) (1) _ rg0.rd (by first | omega | (simp [size_drew]; done) | (simp [size_drew]; omega)) (by omega) rL0_0n).mono ?_
  rintro e w8 ⟨rfl, b8⟩
  clear ckg0_0 ckg0_1 fkg0_0 fkg0_1 l_kg0_0
  have z8 := b8.size
  try simp only [World.size_alloc, World.size_setCell, size_drew] at z8
  have B8 : Below w.heap.size w w8 := Below.t b8
  have rw0_ := rw0.below b8
  clear rw0; have rw0 := rw0_; clear rw0_
  have rg0_ := rg0.below b8
  clear rg0; have rg0 := rg0_; clear rg0_
  have pt_ : Box w8 (w.heap.size) #[.int .i64 tI0, .int .i64 tI1] 51 := pt.below b8 (by first | omega | (simp [size_drew]; done) | (simp [size_drew]; omega))
  clear pt; have pt := pt_; clear pt_
  have kw0_ : Box w8 (w2.heap.size) #[.int .i64 (kP pI0 nI0 tI0 tI1), (.slice w0A0 w0n0 w0c0)] 33 := kw0.below b8 (by first | omega | (simp [size_drew]; done) | (simp [size_drew]; omega))
  clear kw0; have kw0 := kw0_; clear kw0_
  have kw1_ : Box w8 (w2.heap.size + 1) #[.int .i64 tI0, .int .i64 (kT pI0 nI0 tI0 tI1)] 40 := kw1.below b8 (by first | omega | (simp [size_drew]; done) | (simp [size_drew]; omega))
  clear kw1; have kw1 := kw1_; clear kw1_
  have kg0_ : Box w8 (w4.heap.size) #[.int .i64 (kP pI0 nI0 tI0 tI1), (.slice g0A0 g0n0 g0c0)] 33 := kg0.below b8 (by first | omega | (simp [size_drew]; done) | (simp [size_drew]; omega))
  clear kg0; have kg0 := kg0_; clear kg0_
  have kg1_ : Box w8 (w4.heap.size + 1) #[.int .i64 tI0, .int .i64 (kT pI0 nI0 tI0 tI1)] 40 := kg1.below b8 (by first | omega | (simp [size_drew]; done) | (simp [size_drew]; omega))
  clear kg1; have kg1 := kg1_; clear kg1_
  obtain ⟨cpt_0, cpt_1, fpt_0, fpt_1⟩ := pt.two
  have l_pt_0 : w.heap.size < w8.heap.size := by omega
  go_wp2_with fail
  refine (toTape_L tI0 tI1).mono ?_
  rintro e w9 ⟨rfl, b9⟩
  clear cpt_0 cpt_1 fpt_0 fpt_1 l_pt_0
  have z9 := b9.size
  try simp only [World.size_alloc, World.size_setCell, size_drew] at z9
  have B9 : Below w.heap.size w w9 := Below.t b9
  have rw0_ := rw0.below b9
  clear rw0; have rw0 := rw0_; clear rw0_
  have rg0_ := rg0.below b9
  clear rg0; have rg0 := rg0_; clear rg0_
  have pt_ : Box w9 (w.heap.size) #[.int .i64 tI0, .int .i64 tI1] 51 := pt.below b9 (by first | omega | (simp [size_drew]; done) | (simp [size_drew]; omega))
  clear pt; have pt := pt_; clear pt_
  have kw0_ : Box w9 (w2.heap.size) #[.int .i64 (kP pI0 nI0 tI0 tI1), (.slice w0A0 w0n0 w0c0)] 33 := kw0.below b9 (by first | omega | (simp [size_drew]; done) | (simp [size_drew]; omega))
  clear kw0; have kw0 := kw0_; clear kw0_
  have kw1_ : Box w9 (w2.heap.size + 1) #[.int .i64 tI0, .int .i64 (kT pI0 nI0 tI0 tI1)] 40 := kw1.below b9 (by first | omega | (simp [size_drew]; done) | (simp [size_drew]; omega))
  clear kw1; have kw1 := kw1_; clear kw1_
  have kg0_ : Box w9 (w4.heap.size) #[.int .i64 (kP pI0 nI0 tI0 tI1), (.slice g0A0 g0n0 g0c0)] 33 := kg0.below b9 (by first | omega | (simp [size_drew]; done) | (simp [size_drew]; omega))
  clear kg0; have kg0 := kg0_; clear kg0_
  have kg1_ : Box w9 (w4.heap.size + 1) #[.int .i64 tI0, .int .i64 (kT pI0 nI0 tI0 tI1)] 40 := kg1.below b9 (by first | omega | (simp [size_drew]; done) | (simp [size_drew]; omega))
  clear kg1; have kg1 := kg1_; clear kg1_
  go_wp2_with fail
  refine (iKeysNew_L pI0 nI0 tI0 tI1).mono ?_
  rintro e w10 ⟨h0A0, h0n0, h0c0, rfl, rh0, b10⟩
  have z10 := b10.size
  try simp only [World.size_alloc, World.size_setCell, size_drew] at z10
  have B10 : Below w.heap.size w w10 := Below.t b10
  have rw0_ := rw0.below b10
  clear rw0; have rw0 := rw0_; clear rw0_
  have rg0_ := rg0.below b10
  clear rg0; have rg0 := rg0_; clear rg0_
  have pt_ : Box w10 (w.heap.size) #[.int .i64 tI0, .int .i64 tI1] 51 := pt.below b10 (by first | omega | (simp [size_drew]; done) | (simp [size_drew]; omega))
  clear pt; have pt := pt_; clear pt_
  have kw0_ : Box w10 (w2.heap.size) #[.int .i64 (kP pI0 nI0 tI0 tI1), (.slice w0A0 w0n0 w0c0)] 33 := kw0.below b10 (by first | omega | (simp [size_drew]; done) | (simp [size_drew]; omega))
  clear kw0; have kw0 := kw0_; clear kw0_
  have kw1_ : Box w10 (w2.heap.size + 1) #[.int .i64 tI0, .int .i64 (kT pI0 nI0 tI0 tI1)] 40 := kw1.below b10 (by first | omega | (simp [size_drew]; done) | (simp [size_drew]; omega))
  clear kw1; have kw1 := kw1_; clear kw1_
  have kg0_ : Box w10 (w4.heap.size) #[.int .i64 (kP pI0 nI0 tI0 tI1), (.slice g0A0 g0n0 g0c0)] 33 := kg0.below b10 (by first | omega | (simp [size_drew]; done) | (simp [size_drew]; omega))
  clear kg0; have kg0 := kg0_; clear kg0_
  have kg1_ : Box w10 (w4.heap.size + 1) #[.int .i64 tI0, .int .i64 (kT pI0 nI0 tI0 tI1)] 40 := kg1.below b10 (by first | omega | (simp [size_drew]; done) | (simp [size_drew]; omega))
  clear kg1; have kg1 := kg1_; clear kg1_
  try simp only [World.size_alloc, World.size_setCell, size_drew] at rh0
  obtain ⟨ckw0_0, ckw0_1, fkw0_0, fkw0_1⟩ := kw0.two
  have l_kw0_0 : w2.heap.size < w10.heap.size := by omega
  have l_kw0_1 : w2.heap.size < w10.heap.size + 1 := by omega
  have l_kw0_2 : w2.heap.size < w10.heap.size + 1 + 1 := by omega
  go_wp2_with fail
  refine (eqKeys_L (kP pI0 nI0 tI0 tI1) ((rh0.alloc _).alloc _).rd ((rw0.alloc _).alloc _).rd rL0_0n).mono ?_
  rintro e w11 ⟨rfl, b11⟩
  clear ckw0_0 ckw0_1 fkw0_0 fkw0_1 l_kw0_0 l_kw0_1 l_kw0_2
  have z11 := b11.size
  try simp only [World.size_alloc, World.size_setCell, size_drew] at z11
  have B11 : Below w.heap.size w w11 := Below.t b11
  have rw0_ := ((rw0.alloc _).alloc _).below b11
  clear rw0; have rw0 := rw0_; clear rw0_
  have rg0_ := ((rg0.alloc _).alloc _).below b11
  clear rg0; have rg0 := rg0_; clear rg0_
  have rh0_ := ((rh0.alloc _).alloc _).below b11
  clear rh0; have rh0 := rh0_; clear rh0_
  have pt_ : Box w11 (w.heap.size) #[.int .i64 tI0, .int .i64 tI1] 51 := ((pt.alloc _).alloc _).below b11 (by first | omega | (simp [size_drew]; done) | (simp [size_drew]; omega))
  clear pt; have pt := pt_; clear pt_
  have kw0_ : Box w11 (w2.heap.size) #[.int .i64 (kP pI0 nI0 tI0 tI1), (.slice w0A0 w0n0 w0c0)] 33 := ((kw0.alloc _).alloc _).below b11 (by first | omega | (simp [size_drew]; done) | (simp [size_drew]; omega))
  clear kw0; have kw0 := kw0_; clear kw0_
  have kw1_ : Box w11 (w2.heap.size + 1) #[.int .i64 tI0, .int .i64 (kT pI0 nI0 tI0 tI1)] 40 := ((kw1.alloc _).alloc _).below b11 (by first | omega | (simp [size_drew]; done) | (simp [size_drew]; omega))
  clear kw1; have kw1 := kw1_; clear kw1_
  have kg0_ : Box w11 (w4.heap.size) #[.int .i64 (kP pI0 nI0 tI0 tI1), (.slice g0A0 g0n0 g0c0)] 33 := ((kg0.alloc _).alloc _).below b11 (by first | omega | (simp [size_drew]; done) | (simp [size_drew]; omega))
  clear kg0; have kg0 := kg0_; clear kg0_
  have kg1_ : Box w11 (w4.heap.size + 1) #[.int .i64 tI0, .int .i64 (kT pI0 nI0 tI0 tI1)] 40 := ((kg1.alloc _).alloc _).below b11 (by first | omega | (simp [size_drew]; done) | (simp [size_drew]; omega))
  clear kg1; have kg1 := kg1_; clear kg1_
  have kh0_ : Box w11 (w10.heap.size) #[.int .i64 (kP pI0 nI0 tI0 tI1), (.slice h0A0 h0n0 h0c0)] 33 := ((Box.new (g := w10.heap.size) _ #[.int .i64 (kP pI0 nI0 tI0 tI1), (.slice h0A0 h0n0 h0c0)] 33 (by simp)).alloc _).below b11 (by first | omega | (simp [size_drew]; done) | (simp [size_drew]; omega))
  have kh0 := kh0_; clear kh0_
  have kh1_ : Box w11 (w10.heap.size + 1) #[.int .i64 tI0, .int .i64 (kT pI0 nI0 tI0 tI1)] 40 := (Box.new (g := w10.heap.size + 1) _ #[.int .i64 tI0, .int .i64 (kT pI0 nI0 tI0 tI1)] 40 (by simp)).below b11 (by first | omega | (simp [size_drew]; done) | (simp [size_drew]; omega))
  have kh1 := kh1_; clear kh1_
  obtain ⟨ckh1_0, ckh1_1, fkh1_0, fkh1_1⟩ := kh1.two
  have l_kh1_0 : w10.heap.size + 1 < w11.heap.size := by omega
  obtain ⟨ckw1_0, ckw1_1, fkw1_0, fkw1_1⟩ := kw1.two
  have l_kw1_0 : w2.heap.size + 1 < w11.heap.size := by omega
  go_wp2_with fail
  refine (eqTape_L tI0 (kT pI0 nI0 tI0 tI1)).mono ?_
  rintro e w12 ⟨rfl, b12⟩
  clear ckh1_0 ckh1_1 fkh1_0 fkh1_1 l_kh1_0 ckw1_0 ckw1_1 fkw1_0 fkw1_1 l_kw1_0
  have z12 := b12.size
  try simp only [World.size_alloc, World.size_setCell, size_drew] at z12
  have B12 : Below w.heap.size w w12 := Below.t b12
  have rw0_ := rw0.below b12
  clear rw0; have rw0 := rw0_; clear rw0_
  have rg0_ := rg0.below b12
  clear rg0; have rg0 := rg0_; clear rg0_
  have rh0_ := rh0.below b12
  clear rh0; have rh0 := rh0_; clear rh0_
  have pt_ : Box w12 (w.heap.size) #[.int .i64 tI0, .int .i64 tI1] 51 := pt.below b12 (by first | omega | (simp [size_drew]; done) | (simp [size_drew]; omega))
  clear pt; have pt := pt_; clear pt_
  have kw0_ : Box w12 (w2.heap.size) #[.int .i64 (kP pI0 nI0 tI0 tI1), (.slice w0A0 w0n0 w0c0)] 33 := kw0.below b12 (by first | omega | (simp [size_drew]; done) | (simp [size_drew]; omega))
  clear kw0; have kw0 := kw0_; clear kw0_
  have kw1_ : Box w12 (w2.heap.size + 1) #[.int .i64 tI0, .int .i64 (kT pI0 nI0 tI0 tI1)] 40 := kw1.below b12 (by first | omega | (simp [size_drew]; done) | (simp [size_drew]; omega))
  clear kw1; have kw1 := kw1_; clear kw1_
  have kg0_ : Box w12 (w4.heap.size) #[.int .i64 (kP pI0 nI0 tI0 tI1), (.slice g0A0 g0n0 g0c0)] 33 := kg0.below b12 (by first | omega | (simp [size_drew]; done) | (simp [size_drew]; omega))
  clear kg0; have kg0 := kg0_; clear kg0_
  have kg1_ : Box w12 (w4.heap.size + 1) #[.int .i64 tI0, .int .i64 (kT pI0 nI0 tI0 tI1)] 40 := kg1.below b12 (by first | omega | (simp [size_drew]; done) | (simp [size_drew]; omega))
  clear kg1; have kg1 := kg1_; clear kg1_
  have kh0_ : Box w12 (w10.heap.size) #[.int .i64 (kP pI0 nI0 tI0 tI1), (.slice h0A0 h0n0 h0c0)] 33 := kh0.below b12 (by first | omega | (simp [size_drew]; done) | (simp [size_drew]; omega))
  clear kh0; have kh0 := kh0_; clear kh0_
  have kh1_ : Box w12 (w10.heap.size + 1) #[.int .i64 tI0, .int .i64 (kT pI0 nI0 tI0 tI1)] 40 := kh1.below b12 (by first | omega | (simp [size_drew]; done) | (simp [size_drew]; omega))
  clear kh1; have kh1 := kh1_; clear kh1_
  obtain ⟨ckg0_0, ckg0_1, fkg0_0, fkg0_1⟩ := kg0.two
  have l_kg0_0 : w4.heap.size < w12.heap.size := by omega
  go_wp2_with fail
  refine (heldKeys_L (kL pI0 nI0 tI0 tI1).length (kP pI0 nI0 tI0 tI1) (1) _ rg0.rd (by first | omega | (simp [size_drew]; done) | (simp [size_drew]; omega)) (by omega) rL0_0n).mono ?_
  rintro e w13 ⟨rfl, b13⟩
  clear ckg0_0 ckg0_1 fkg0_0 fkg0_1 l_kg0_0
  have z13 := b13.size
  try simp only [World.size_alloc, World.size_setCell, size_drew] at z13
  have B13 : Below w.heap.size w w13 := Below.t b13
  have rw0_ := rw0.below b13
  clear rw0; have rw0 := rw0_; clear rw0_
  have rg0_ := rg0.below b13
  clear rg0; have rg0 := rg0_; clear rg0_
  have rh0_ := rh0.below b13
  clear rh0; have rh0 := rh0_; clear rh0_
  have pt_ : Box w13 (w.heap.size) #[.int .i64 tI0, .int .i64 tI1] 51 := pt.below b13 (by first | omega | (simp [size_drew]; done) | (simp [size_drew]; omega))
  clear pt; have pt := pt_; clear pt_
  have kw0_ : Box w13 (w2.heap.size) #[.int .i64 (kP pI0 nI0 tI0 tI1), (.slice w0A0 w0n0 w0c0)] 33 := kw0.below b13 (by first | omega | (simp [size_drew]; done) | (simp [size_drew]; omega))
  clear kw0; have kw0 := kw0_; clear kw0_
  have kw1_ : Box w13 (w2.heap.size + 1) #[.int .i64 tI0, .int .i64 (kT pI0 nI0 tI0 tI1)] 40 := kw1.below b13 (by first | omega | (simp [size_drew]; done) | (simp [size_drew]; omega))
  clear kw1; have kw1 := kw1_; clear kw1_
  have kg0_ : Box w13 (w4.heap.size) #[.int .i64 (kP pI0 nI0 tI0 tI1), (.slice g0A0 g0n0 g0c0)] 33 := kg0.below b13 (by first | omega | (simp [size_drew]; done) | (simp [size_drew]; omega))
  clear kg0; have kg0 := kg0_; clear kg0_
  have kg1_ : Box w13 (w4.heap.size + 1) #[.int .i64 tI0, .int .i64 (kT pI0 nI0 tI0 tI1)] 40 := kg1.below b13 (by first | omega | (simp [size_drew]; done) | (simp [size_drew]; omega))
  clear kg1; have kg1 := kg1_; clear kg1_
  have kh0_ : Box w13 (w10.heap.size) #[.int .i64 (kP pI0 nI0 tI0 tI1), (.slice h0A0 h0n0 h0c0)] 33 := kh0.below b13 (by first | omega | (simp [size_drew]; done) | (simp [size_drew]; omega))
  clear kh0; have kh0 := kh0_; clear kh0_
  have kh1_ : Box w13 (w10.heap.size + 1) #[.int .i64 tI0, .int .i64 (kT pI0 nI0 tI0 tI1)] 40 := kh1.below b13 (by first | omega | (simp [size_drew]; done) | (simp [size_drew]; omega))
  clear kh1; have kh1 := kh1_; clear kh1_
  go_wp2_with fail
  go_ret
  exact ⟨rfl, B13⟩
end Go.Proofs.Ytllnnbmgdbinnaa

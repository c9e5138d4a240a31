/- The walk of the law FnExactInputLabels. Printed by laws2.py. -/
import Derived.Test.YtodnahpegecpiaaInL
import Derived.Test.YtodnahpegecpiaaHk
import Derived.Test.YtodnahpegecpiaaAuto
namespace Go.Proofs.Ytodnahpegecpiaa
set_option linter.unusedSimpArgs false
set_option linter.unusedVariables false
open Go.RowKit
set_option maxRecDepth 100000 in
set_option maxHeartbeats 2000000 in
theorem walk_FnExactInputLabels (tI0 : Int) (tI1 : Int) (bL0V : Value) (bL0 : List Int) (w : World) (bL0h : Rd0 w bL0V bL0) :
    Calls Try.prog 9 #[.agg #[.int .i64 tI0, .int .i64 tI1], bL0V] w fun e w' => e = .returned (.bool true) ∧ Below w.heap.size w w' := by
  obtain ⟨bA0, bn0, bc0, rfl, bL0x, bL0I⟩ := bL0h
  have bL0h : Rd0 w (.slice bA0 bn0 bc0) bL0 := ⟨_, _, _, rfl, bL0x, bL0I⟩
  by_cases bL0b : (1048576 : Int) < bn0
  · go_enter Try.func9, Try.ntmps9
    go_wp2
    go_ret
    refine ⟨rfl, ?_⟩
    repeat (first | exact Below.refl _ _ | refine Below.alloc ?_ (by first | omega | (simp; done) | (simp; omega)) _ | refine Below.setCell ?_ (by first | omega | (simp; done) | (simp; omega)) _ | refine Below.drew ?_ | refine below_drewN ?_ _ | refine Below.trans ?_ (hb30.mono (by first | omega | (simp; done) | (simp; omega))) | refine Below.trans ?_ (hb29.mono (by first | omega | (simp; done) | (simp; omega))) | refine Below.trans ?_ (hb28.mono (by first | omega | (simp; done) | (simp; omega))) | refine Below.trans ?_ (hb27.mono (by first | omega | (simp; done) | (simp; omega))) | refine Below.trans ?_ (hb26.mono (by first | omega | (simp; done) | (simp; omega))) | refine Below.trans ?_ (hb25.mono (by first | omega | (simp; done) | (simp; omega))) | refine Below.trans ?_ (hb24.mono (by first | omega | (simp; done) | (simp; omega))) | refine Below.trans ?_ (hb23.mono (by first | omega | (simp; done) | (simp; omega))) | refine Below.trans ?_ (hb22.mono (by first | omega | (simp; done) | (simp; omega))) | refine Below.trans ?_ (hb21.mono (by first | omega | (simp; done) | (simp; omega))) | refine Below.trans ?_ (hb20.mono (by first | omega | (simp; done) | (simp; omega))) | refine Below.trans ?_ (hb19.mono (by first | omega | (simp; done) | (simp; omega))) | refine Below.trans ?_ (hb18.mono (by first | omega | (simp; done) | (simp; omega))) | refine Below.trans ?_ (hb17.mono (by first | omega | (simp; done) | (simp; omega))) | refine Below.trans ?_ (hb16.mono (by first | omega | (simp; done) | (simp; omega))) | refine Below.trans ?_ (hb15.mono (by first | omega | (simp; done) | (simp; omega))) | refine Below.trans ?_ (hb14.mono (by first | omega | (simp; done) | (simp; omega))) | refine Below.trans ?_ (hb13.mono (by first | omega | (simp; done) | (simp; omega))) | refine Below.trans ?_ (hb12.mono (by first | omega | (simp; done) | (simp; omega))) | refine Below.trans ?_ (hb11.mono (by first | omega | (simp; done) | (simp; omega))) | refine Below.trans ?_ (hb10.mono (by first | omega | (simp; done) | (simp; omega))) | refine Below.trans ?_ (hb9.mono (by first | omega | (simp; done) | (simp; omega))) | refine Below.trans ?_ (hb8.mono (by first | omega | (simp; done) | (simp; omega))) | refine Below.trans ?_ (hb7.mono (by first | omega | (simp; done) | (simp; omega))) | refine Below.trans ?_ (hb6.mono (by first | omega | (simp; done) | (simp; omega))) | refine Below.trans ?_ (hb5.mono (by first | omega | (simp; done) | (simp; omega))) | refine Below.trans ?_ (hb4.mono (by first | omega | (simp; done) | (simp; omega))) | refine Below.trans ?_ (hb3.mono (by first | omega | (simp; done) | (simp; omega))) | refine Below.trans ?_ (hb2.mono (by first | omega | (simp; done) | (simp; omega))) | refine Below.trans ?_ (hb1.mono (by first | omega | (simp; done) | (simp; omega))))
  · skip
    have bL0n : bL0.length ≤ 1048576 := by rw [bL0I.len]; omega
    have rL0_0n : (inLab tI0 tI1 bL0).length ≤ 1048576 := Nat.le_trans (inLab_len _ _ _) bL0n
    go_enter Try.func9, Try.ntmps9
    go_wp2_with fail
    refine (toTape_L tI0 tI1).mono ?_
    rintro e w1 ⟨rfl, b1⟩
    have z1 := b1.size
    try simp only [World.size_alloc, World.size_setCell, size_drew] at z1
    have B1 : Below w.heap.size w w1 := Below.t b1
    have pt_ : Box w1 (w.heap.size) #[.int .i64 tI0, .int .i64 tI1] 69 := (Box.new (g := w.heap.size) _ #[.int .i64 tI0, .int .i64 tI1] 69 (by simp)).below b1 (by first | omega | (simp [size_drew]; done) | (simp [size_drew]; omega))
    have pt := pt_; clear pt_
    go_wp2_with fail
    refine (toIntS_L (RdL.cons (d := .ints bL0) bL0h.rd.b RdL.nil) bL0n).mono ?_
    rintro e w2 ⟨sbA0, sbn0, sbc0, rfl, rsb, b2⟩
    have z2 := b2.size
    try simp only [World.size_alloc, World.size_setCell, size_drew] at z2
    have B2 : Below w.heap.size w w2 := Below.t b2
    have pt_ : Box w2 (w.heap.size) #[.int .i64 tI0, .int .i64 tI1] 69 := pt.below b2 (by first | omega | (simp [size_drew]; done) | (simp [size_drew]; omega))
    clear pt; have pt := pt_; clear pt_
    try simp only [World.size_alloc, World.size_setCell, size_drew] at rsb
    go_wp2_with fail
    refine (sInputLabels_L tI0 tI1 rsb.rd bL0n).mono ?_
    rintro e w3 ⟨w0A0, w0n0, w0c0, rfl, rw0, b3⟩
    have z3 := b3.size
    try simp only [World.size_alloc, World.size_setCell, size_drew] at z3
    have B3 : Below w.heap.size w w3 := Below.t b3
    have rsb_ := rsb.below b3
    clear rsb; have rsb := rsb_; clear rsb_
    have pt_ : Box w3 (w.heap.size) #[.int .i64 tI0, .int .i64 tI1] 69 := pt.below b3 (by first | omega | (simp [size_drew]; done) | (simp [size_drew]; omega))
    clear pt; have pt := pt_; clear pt_
    try simp only [World.size_alloc, World.size_setCell, size_drew] at rw0
    go_wp2_with fail
    refine (toIntS_L (RdL.cons (d := .ints bL0) bL0h.rd.b RdL.nil) bL0n).mono ?_
    rintro e w4 ⟨xbA0, xbn0, xbc0, rfl, rxb, b4⟩
    have z4 := b4.size
    try simp only [World.size_alloc, World.size_setCell, size_drew] at z4
    have B4 : Below w.heap.size w w4 := Below.t b4
    have rw0_ := rw0.below b4
    clear rw0; have rw0 := rw0_; clear rw0_
    have pt_ : Box w4 (w.heap.size) #[.int .i64 tI0, .int .i64 tI1] 69 := pt.below b4 (by first | omega | (simp [size_drew]; done) | (simp [size_drew]; omega))
    clear pt; have pt := pt_; clear pt_
    try simp only [World.size_alloc, World.size_setCell, size_drew] at rxb
    obtain ⟨cpt_0, cpt_1, fpt_0, fpt_1⟩ := pt.two
    have l_pt_0 : w.heap.size < w4.heap.size := by omega
    go_wp2_with fail
    refine (toTape_L tI0 tI1).mono ?_
    rintro e w5 ⟨rfl, b5⟩
    clear cpt_0 cpt_1 fpt_0 fpt_1 l_pt_0
    have z5 := b5.size
    try simp only [World.size_alloc, World.size_setCell, size_drew] at z5
    have B5 : Below w.heap.size w w5 := Below.t b5
    have rw0_ := rw0.below b5
    clear rw0; have rw0 := rw0_; clear rw0_
    have rxb_ := rxb.below b5
    clear rxb; have rxb := rxb_; clear rxb_
    have pt_ : Box w5 (w.heap.size) #[.int .i64 tI0, .int .i64 tI1] 69 := pt.below b5 (by first | omega | (simp [size_drew]; done) | (simp [size_drew]; omega))
    clear pt; have pt := pt_; clear pt_
    go_wp2_with fail
    refine (iInputLabels_L tI0 tI1 rxb.rd bL0n).mono ?_
    rintro e w6 ⟨g0A0, g0n0, g0c0, rfl, rg0, b6⟩
    have z6 := b6.size
    try simp only [World.size_alloc, World.size_setCell, size_drew] at z6
    have B6 : Below w.heap.size w w6 := Below.t b6
    have rw0_ := rw0.below b6
    clear rw0; have rw0 := rw0_; clear rw0_
    have rxb_ := rxb.below b6
    clear rxb; have rxb := rxb_; clear rxb_
    have pt_ : Box w6 (w.heap.size) #[.int .i64 tI0, .int .i64 tI1] 69 := pt.below b6 (by first | omega | (simp [size_drew]; done) | (simp [size_drew]; omega))
    clear pt; have pt := pt_; clear pt_
    try simp only [World.size_alloc, World.size_setCell, size_drew] at rg0
    go_wp2_with fail
    refine (eqIntS_L rg0.rd rw0.rd rL0_0n).mono ?_
    rintro e w7 ⟨rfl, b7⟩
    have z7 := b7.size
    try simp only [World.size_alloc, World.size_setCell, size_drew] at z7
    have B7 : Below w.heap.size w w7 := Below.t b7
    have rw0_ := rw0.below b7
    clear rw0; have rw0 := rw0_; clear rw0_
    have rxb_ := rxb.below b7
    clear rxb; have rxb := rxb_; clear rxb_
    have rg0_ := rg0.below b7
    clear rg0; have rg0 := rg0_; clear rg0_
    have pt_ : Box w7 (w.heap.size) #[.int .i64 tI0, .int .i64 tI1] 69 := pt.below b7 (by first | omega | (simp [size_drew]; done) | (simp [size_drew]; omega))
    clear pt; have pt := pt_; clear pt_
    go_wp2_with fail
    refine (toIntS_L (RdL.cons (d := .ints bL0) bL0h.rd.b RdL.nil) bL0n).mono ?_
    rintro e w8 ⟨zbA0, zbn0, zbc0, rfl, rzb, b8⟩
    have z8 := b8.size
    try simp only [World.size_alloc, World.size_setCell, size_drew] at z8
    have B8 : Below w.heap.size w w8 := Below.t b8
    have rw0_ := rw0.below b8
    clear rw0; have rw0 := rw0_; clear rw0_
    have rxb_ := rxb.below b8
    clear rxb; have rxb := rxb_; clear rxb_
    have rg0_ := rg0.below b8
    clear rg0; have rg0 := rg0_; clear rg0_
    have pt_ : Box w8 (w.heap.size) #[.int .i64 tI0, .int .i64 tI1] 69 := pt.below b8 (by first | omega | (simp [size_drew]; done) | (simp [size_drew]; omega))
    clear pt; have pt := pt_; clear pt_
    try simp only [World.size_alloc, World.size_setCell, size_drew] at rzb
    go_wp2_with fail
    refine (eqIntS_L rxb.rd rzb.rd bL0n).mono ?_
    rintro e w9 ⟨rfl, b9⟩
    have z9 := b9.size
    try simp only [World.size_alloc, World.size_setCell, size_drew] at z9
    have B9 : Below w.heap.size w w9 := Below.t b9
    have rw0_ := rw0.below b9
    clear rw0; have rw0 := rw0_; clear rw0_
    have rxb_ := rxb.below b9
    clear rxb; have rxb := rxb_; clear rxb_
    have rg0_ := rg0.below b9
    clear rg0; have rg0 := rg0_; clear rg0_
    have rzb_ := rzb.below b9
    clear rzb; have rzb := rzb_; clear rzb_
    have pt_ : Box w9 (w.heap.size) #[.int .i64 tI0, .int .i64 tI1] 69 := pt.below b9 (by first | omega | (simp [size_drew]; done) | (simp [size_drew]; omega))
    clear pt; have pt := pt_; clear pt_
    go_wp2_with fail
    refine (markIntS_L (pre := []) (post := []) (1) _ rxb (by first | omega | (simp [size_drew]; done) | (simp [size_drew]; omega)) (by omega) bL0n).mono ?_
    rintro e w10 ⟨rfl, rxb, c10⟩
    have z10 := c10.size
    try simp only [World.size_alloc, World.size_setCell, size_drew] at z10
    have rw0_ := rw0.away c10 (by omega)
    clear rw0; have rw0 := rw0_; clear rw0_
    have rg0_ := rg0.away c10 (by omega)
    clear rg0; have rg0 := rg0_; clear rg0_
    have pt_ : Box w10 (w.heap.size) #[.int .i64 tI0, .int .i64 tI1] 69 := pt.chg c10 (by omega)
    clear pt; have pt := pt_; clear pt_
    have B10 : Below w.heap.size w w10 := B9.trans (c10.below (by omega) (by omega))
    go_wp2_with fail
    refine (eqIntS_L rg0.rd rw0.rd rL0_0n).mono ?_
    rintro e w11 ⟨rfl, b11⟩
    have z11 := b11.size
    try simp only [World.size_alloc, World.size_setCell, size_drew] at z11
    have B11 : Below w.heap.size w w11 := Below.t b11
    have rw0_ := rw0.below b11
    clear rw0; have rw0 := rw0_; clear rw0_
    have rg0_ := rg0.below b11
    clear rg0; have rg0 := rg0_; clear rg0_
    have rxb_ := rxb.below b11
    clear rxb; have rxb := rxb_; clear rxb_
    have pt_ : Box w11 (w.heap.size) #[.int .i64 tI0, .int .i64 tI1] 69 := pt.below b11 (by first | omega | (simp [size_drew]; done) | (simp [size_drew]; omega))
    clear pt; have pt := pt_; clear pt_
    go_wp2_with fail
    refine (markIntS_L (pre := []) (post := []) (1) _ rg0 (by first | omega | (simp [size_drew]; done) | (simp [size_drew]; omega)) (by omega) rL0_0n).mono ?_
    rintro e w12 ⟨rfl, rg0, c12⟩
    have z12 := c12.size
    try simp only [World.size_alloc, World.size_setCell, size_drew] at z12
    have rw0_ := rw0.away c12 (by omega)
    clear rw0; have rw0 := rw0_; clear rw0_
    have pt_ : Box w12 (w.heap.size) #[.int .i64 tI0, .int .i64 tI1] 69 := pt.chg c12 (by omega)
    clear pt; have pt := pt_; clear pt_
    have B12 : Below w.heap.size w w12 := B11.trans (c12.below (by omega) (by omega))
    go_wp2_with fail
    refine (heldIntS_L (inLab tI0 tI1 bL0).length (1) _ rg0.rd (by first | omega | (simp [size_drew]; done) | (simp [size_drew]; omega)) (by omega) rL0_0n).mono ?_
    rintro e w_ ⟨rfl, rfl⟩
    obtain ⟨cpt_0, cpt_1, fpt_0, fpt_1⟩ := pt.two
    have l_pt_0 : w.heap.size < w12.heap.size := by omega
    go_wp2_with fail
    refine (toTape_L tI0 tI1).mono ?_
    rintro e w13 ⟨rfl, b13⟩
    clear cpt_0 cpt_1 fpt_0 fpt_1 l_pt_0
    have z13 := b13.size
    try simp only [World.size_alloc, World.size_setCell, size_drew] at z13
    have B13 : Below w.heap.size w w13 := Below.t b13
    have rw0_ := rw0.below b13
    clear rw0; have rw0 := rw0_; clear rw0_
    have rg0_ := rg0.below b13
    clear rg0; have rg0 := rg0_; clear rg0_
    have pt_ : Box w13 (w.heap.size) #[.int .i64 tI0, .int .i64 tI1] 69 := pt.below b13 (by first | omega | (simp [size_drew]; done) | (simp [size_drew]; omega))
    clear pt; have pt := pt_; clear pt_
    go_wp2_with fail
    refine (toIntS_L (RdL.cons (d := .ints bL0) bL0h.rd.b RdL.nil) bL0n).mono ?_
    rintro e w14 ⟨tbA0, tbn0, tbc0, rfl, rtb, b14⟩
    have z14 := b14.size
    try simp only [World.size_alloc, World.size_setCell, size_drew] at z14
    have B14 : Below w.heap.size w w14 := Below.t b14
    have rw0_ := rw0.below b14
    clear rw0; have rw0 := rw0_; clear rw0_
    have rg0_ := rg0.below b14
    clear rg0; have rg0 := rg0_; clear rg0_
    have pt_ : Box w14 (w.heap.size) #[.int .i64 tI0, .int .i64 tI1] 69 := pt.below b14 (by first | omega | (simp [size_drew]; done) | (simp [size_drew]; omega))
    clear pt; have pt := pt_; clear pt_
    try simp only [World.size_alloc, World.size_setCell, size_drew] at rtb
    go_wp2_with fail
    refine (iInputLabels_L tI0 tI1 rtb.rd bL0n).mono ?_
    rintro e w15 ⟨h0A0, h0n0, h0c0, rfl, rh0, b15⟩
    have z15 := b15.size
    try simp only [World.size_alloc, World.size_setCell, size_drew] at z15
    have B15 : Below w.heap.size w w15 := Below.t b15
    have rw0_ := rw0.below b15
    clear rw0; have rw0 := rw0_; clear rw0_
    have rg0_ := rg0.below b15
    clear rg0; have rg0 := rg0_; clear rg0_
    have rtb_ := rtb.below b15
    clear rtb; have rtb := rtb_; clear rtb_
    have pt_ : Box w15 (w.heap.size) #[.int .i64 tI0, .int .i64 tI1] 69 := pt.below b15 (by first | omega | (simp [size_drew]; done) | (simp [size_drew]; omega))
    clear pt; have pt := pt_; clear pt_
    try simp only [World.size_alloc, World.size_setCell, size_drew] at rh0
    go_wp2_with fail
    refine (eqIntS_L rh0.rd rw0.rd rL0_0n).mono ?_
    rintro e w16 ⟨rfl, b16⟩
    have z16 := b16.size
    try simp only [World.size_alloc, World.size_setCell, size_drew] at z16
    have B16 : Below w.heap.size w w16 := Below.t b16
    have rw0_ := rw0.below b16
    clear rw0; have rw0 := rw0_; clear rw0_
    have rg0_ := rg0.below b16
    clear rg0; have rg0 := rg0_; clear rg0_
    have rh0_ := rh0.below b16
    clear rh0; have rh0 := rh0_; clear rh0_
    have pt_ : Box w16 (w.heap.size) #[.int .i64 tI0, .int .i64 tI1] 69 := pt.below b16 (by first | omega | (simp [size_drew]; done) | (simp [size_drew]; omega))
    clear pt; have pt := pt_; clear pt_
    go_wp2_with fail
    refine (heldIntS_L (inLab tI0 tI1 bL0).length (1) _ rg0.rd (by first | omega | (simp [size_drew]; done) | (simp [size_drew]; omega)) (by omega) rL0_0n).mono ?_
    rintro e w_ ⟨rfl, rfl⟩
    go_wp2_with fail
    go_ret
    exact ⟨rfl, B16⟩
end Go.Proofs.Ytodnahpegecpiaa

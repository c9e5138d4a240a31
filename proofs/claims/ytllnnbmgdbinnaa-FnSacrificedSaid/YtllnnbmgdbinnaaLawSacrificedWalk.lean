/- The walk of the law FnSacrificed. Printed by laws3.py. -/
import Derived.Test.YtllnnbmgdbinnaaDrawK
import Derived.Test.YtllnnbmgdbinnaaTriN
import Derived.Test.YtllnnbmgdbinnaaSac
import Derived.Test.YtllnnbmgdbinnaaCntR
import Derived.Test.YtllnnbmgdbinnaaTriLaw
import Derived.Test.YtllnnbmgdbinnaaAppD
import Derived.Test.YtllnnbmgdbinnaaOpenS
namespace Go.Proofs.Ytllnnbmgdbinnaa
set_option linter.unusedSimpArgs false
set_option linter.unusedVariables false
open Go.RowKit
set_option maxRecDepth 100000 in
set_option maxHeartbeats 10000000 in
theorem walk_FnSacrificed (A : Option Addr) (n c : Nat) (w : World) (hx : Bts0 w A n) :
    Calls Try.prog 17 #[.slice A n c] w fun e w' => e = .returned (.bool true) ∧ Below w.heap.size w w' := by
  by_cases hn : (1048576 : Int) < n
  · go_enter Try.func17, Try.ntmps17
    go_wp2_with fail
    refine (big_any _ _ _ _).mono ?_
    rintro e w1 ⟨rfl, rfl⟩
    go_wp2
    go_ret
    exact ⟨rfl, Below.refl _ _⟩
  · have hB0 : Bts w A n := ⟨by omega, hx.2⟩
    go_enter Try.func17, Try.ntmps17
    go_wp2_with fail
    refine (big_any _ _ _ _).mono ?_
    rintro e w_ ⟨rfl, rfl⟩
    go_wp2_with fail
    refine (DrawKeys_any n c A _ hB0).mono ?_
    rintro e w1 ⟨p, al, kA, kn, kc, hk, rfl, rk, b1⟩
    have B1 := b1
    have z1 := b1.size
    have HK := Lib.hid hk
    have HF := Lib.hid (keys_fOk hk)
    have HL := Lib.hid (keysOk_iff.1 hk)
    obtain ⟨hp1, hp2⟩ := fOk_bd HF.out
    have hal : al.length ≤ 1048576 := by have := HL.out; omega
    have hp0 : ¬ p = 0 := by omega
    clear b1 hk
    go_wp2_with fail
    refine (DrawTape_any n c A _ (hB0.keep fun _ a _ ha => (show Below w.heap.size w _ from by repeat (with_reducible (first | assumption | exact Below.refl _ _ | refine Below.alloc ?_ (by first | omega | (simp; done) | (simp; omega)) _ | refine Below.setCell ?_ (by first | omega | (simp; done) | (simp; omega)) _ | refine Below.drew ?_ | refine below_drewN ?_ _))).block _ ha)).mono ?_
    rintro e w2 ⟨ts, ta, hts, hta, rfl, b2⟩
    have z2 := b2.size
    try simp only [World.size_alloc, World.size_setCell, size_drew] at z2
    have B2 : Below w.heap.size w w2 := Below.t b2
    have rk_ := (rk.alloc _).below b2
    clear rk; have rk := rk_; clear rk_
    have xk_ : Box w2 (w1.heap.size) #[.int .i64 (p : Int), .slice kA kn kc] 33 := (Box.new (g := w1.heap.size) _ #[.int .i64 (p : Int), .slice kA kn kc] 33 (by simp)).below b2 (by first | omega | (simp [size_drew]; done) | (simp [size_drew]; omega))
    have xk := xk_; clear xk_
    go_wp2_with fail
    refine (DrawPlaces_any n c A _ (hB0.keep fun _ a _ ha => (show Below w.heap.size w _ from by repeat (with_reducible (first | assumption | exact Below.refl _ _ | refine Below.alloc ?_ (by first | omega | (simp; done) | (simp; omega)) _ | refine Below.setCell ?_ (by first | omega | (simp; done) | (simp; omega)) _ | refine Below.drew ?_ | refine below_drewN ?_ _))).block _ ha)).mono ?_
    rintro e w3 ⟨v, l, rfl, hl, ha, ho, b3⟩
    have z3 := b3.size
    try simp only [World.size_alloc, World.size_setCell, size_drew] at z3
    have B3 : Below w.heap.size w w3 := Below.t b3
    have rk_ := (rk.alloc _).below b3
    clear rk; have rk := rk_; clear rk_
    have xk_ : Box w3 (w1.heap.size) #[.int .i64 (p : Int), .slice kA kn kc] 33 := (xk.alloc _).below b3 (by first | omega | (simp [size_drew]; done) | (simp [size_drew]; omega))
    clear xk; have xk := xk_; clear xk_
    have xt_ : Box w3 (w2.heap.size) #[.int .i64 (ts : Int), .int .i64 (ta : Int)] 40 := (Box.new (g := w2.heap.size) _ #[.int .i64 (ts : Int), .int .i64 (ta : Int)] 40 (by simp)).below b3 (by first | omega | (simp [size_drew]; done) | (simp [size_drew]; omega))
    have xt := xt_; clear xt_
    obtain ⟨Bp, dp, rfl, hI⟩ := ho.reads
    rw [hl] at hI ho ⊢
    obtain ⟨gp, op, rfl, hgp, _⟩ := hI.block (by omega)
    have rq : OwnL w3 (w2.heap.size + 1) w3.heap.size [(.slice (some ⟨gp, op, none⟩) 12 dp, .ints l)] := OwnL.one (d := .ints l) (show OwnD _ _ _ (.ints l) by unfold OwnD; (first | exact ho | (simp only [World.size_alloc] at ho; exact ho))) (by omega)
    clear hI ho
    have HA := Lib.hid ha
    have Hl := Lib.hid hl
    clear ha hl
    obtain ⟨cxk_0, cxk_1, fxk_0, fxk_1⟩ := xk.two
    have l_xk_0 : w1.heap.size < w3.heap.size := by omega
    obtain ⟨cxt_0, cxt_1, fxt_0, fxt_1⟩ := xt.two
    have l_xt_0 : w2.heap.size < w3.heap.size := by omega
    go_wp2_with fail
    refine (sTripleNew_L (p : Int) (rk).rd hal (ts : Int) (ta : Int)).mono ?_
    rintro e w4 ⟨uA0, un0, uc0, uA1, un1, uc1, uA2, un2, uc2, uA3, un3, uc3, uA4, un4, uc4, uA5, un5, uc5, rfl, ru, b4⟩
    clear cxk_0 cxk_1 fxk_0 fxk_1 l_xk_0 cxt_0 cxt_1 fxt_0 fxt_1 l_xt_0
    have z4 := b4.size
    try simp only [World.size_alloc, World.size_setCell, size_drew] at z4
    have B4 : Below w.heap.size w w4 := Below.t b4
    have rk_ := rk.below b4
    clear rk; have rk := rk_; clear rk_
    have rq_ := rq.below b4
    clear rq; have rq := rq_; clear rq_
    have xk_ : Box w4 (w1.heap.size) #[.int .i64 (p : Int), .slice kA kn kc] 33 := xk.below b4 (by first | omega | (simp [size_drew]; done) | (simp [size_drew]; omega))
    clear xk; have xk := xk_; clear xk_
    have xt_ : Box w4 (w2.heap.size) #[.int .i64 (ts : Int), .int .i64 (ta : Int)] 40 := xt.below b4 (by first | omega | (simp [size_drew]; done) | (simp [size_drew]; omega))
    clear xt; have xt := xt_; clear xt_
    try simp only [World.size_alloc, World.size_setCell, size_drew] at ru
    obtain ⟨_, h1, h2, h3, bt2⟩ := isV_triple (s := (ts : Int)) (a := (ta : Int)) HK.out (by omega) (by omega)
    have VuA := Lib.hid h1
    have VuB := Lib.hid h2
    have VuC := Lib.hid h3
    clear h1 h2 h3
    generalize mAS (p : Int) al (ts : Int) (ta : Int) = uAS at *
    generalize mAM (p : Int) al (ts : Int) (ta : Int) = uAM at *
    generalize mBS (p : Int) al (ts : Int) (ta : Int) = uBS at *
    generalize mBM (p : Int) al (ts : Int) (ta : Int) = uBM at *
    generalize mCS (p : Int) al (ts : Int) (ta : Int) = uCS at *
    generalize mCM (p : Int) al (ts : Int) (ta : Int) = uCM at *
    generalize mT (p : Int) al (ts : Int) (ta : Int) = t2 at *
    generalize mX (p : Int) (ts : Int) (ta : Int) = ux at *
    generalize mY (p : Int) (ts : Int) (ta : Int) = uy at *
    have uASn : uAS.length ≤ 1048576 := by have := VuA.out.len; have := HL.out; omega
    have uAMn : uAM.length ≤ 1048576 := by have := VuA.out.len; have := HL.out; omega
    have uBSn : uBS.length ≤ 1048576 := by have := VuB.out.len; have := HL.out; omega
    have uBMn : uBM.length ≤ 1048576 := by have := VuB.out.len; have := HL.out; omega
    have uCSn : uCS.length ≤ 1048576 := by have := VuC.out.len; have := HL.out; omega
    have uCMn : uCM.length ≤ 1048576 := by have := VuC.out.len; have := HL.out; omega
    obtain ⟨cxk_0, cxk_1, fxk_0, fxk_1⟩ := xk.two
    have l_xk_0 : w1.heap.size < w4.heap.size := by omega
    have l_xk_1 : w1.heap.size < w4.heap.size + 1 := by omega
    have l_xk_2 : w1.heap.size < w4.heap.size + 1 + 1 := by omega
    go_wp2_with fail
    refine (sTripleNew_L (p : Int) (((rk.alloc _).alloc _)).rd hal (ts : Int) t2).mono ?_
    rintro e w5 ⟨vA0, vn0, vc0, vA1, vn1, vc1, vA2, vn2, vc2, vA3, vn3, vc3, vA4, vn4, vc4, vA5, vn5, vc5, rfl, rv, b5⟩
    clear cxk_0 cxk_1 fxk_0 fxk_1 l_xk_0 l_xk_1 l_xk_2
    have z5 := b5.size
    try simp only [World.size_alloc, World.size_setCell, size_drew] at z5
    have B5 : Below w.heap.size w w5 := Below.t b5
    have rk_ := ((rk.alloc _).alloc _).below b5
    clear rk; have rk := rk_; clear rk_
    have rq_ := ((rq.alloc _).alloc _).below b5
    clear rq; have rq := rq_; clear rq_
    have ru_ := ((ru.alloc _).alloc _).below b5
    clear ru; have ru := ru_; clear ru_
    have xk_ : Box w5 (w1.heap.size) #[.int .i64 (p : Int), .slice kA kn kc] 33 := ((xk.alloc _).alloc _).below b5 (by first | omega | (simp [size_drew]; done) | (simp [size_drew]; omega))
    clear xk; have xk := xk_; clear xk_
    have xt_ : Box w5 (w2.heap.size) #[.int .i64 (ts : Int), .int .i64 (ta : Int)] 40 := ((xt.alloc _).alloc _).below b5 (by first | omega | (simp [size_drew]; done) | (simp [size_drew]; omega))
    clear xt; have xt := xt_; clear xt_
    have xu_ : Box w5 (w4.heap.size) #[.slice uA0 un0 uc0, .slice uA1 un1 uc1, .slice uA2 un2 uc2, .slice uA3 un3 uc3, .slice uA4 un4 uc4, .slice uA5 un5 uc5] 68 := ((Box.new (g := w4.heap.size) _ #[.slice uA0 un0 uc0, .slice uA1 un1 uc1, .slice uA2 un2 uc2, .slice uA3 un3 uc3, .slice uA4 un4 uc4, .slice uA5 un5 uc5] 68 (by simp)).alloc _).below b5 (by first | omega | (simp [size_drew]; done) | (simp [size_drew]; omega))
    have xu := xu_; clear xu_
    have xt2_ : Box w5 (w4.heap.size + 1) #[.int .i64 (ts : Int), .int .i64 t2] 40 := (Box.new (g := w4.heap.size + 1) _ #[.int .i64 (ts : Int), .int .i64 t2] 40 (by simp)).below b5 (by first | omega | (simp [size_drew]; done) | (simp [size_drew]; omega))
    have xt2 := xt2_; clear xt2_
    try simp only [World.size_alloc, World.size_setCell, size_drew] at rv
    obtain ⟨_, h1, h2, h3, bt3⟩ := isV_triple (s := (ts : Int)) (a := t2) HK.out (by omega) (by omega)
    have VvA := Lib.hid h1
    have VvB := Lib.hid h2
    have VvC := Lib.hid h3
    clear h1 h2 h3
    generalize mAS (p : Int) al (ts : Int) t2 = vAS at *
    generalize mAM (p : Int) al (ts : Int) t2 = vAM at *
    generalize mBS (p : Int) al (ts : Int) t2 = vBS at *
    generalize mBM (p : Int) al (ts : Int) t2 = vBM at *
    generalize mCS (p : Int) al (ts : Int) t2 = vCS at *
    generalize mCM (p : Int) al (ts : Int) t2 = vCM at *
    generalize mT (p : Int) al (ts : Int) t2 = t3 at *
    generalize mX (p : Int) (ts : Int) t2 = vx at *
    generalize mY (p : Int) (ts : Int) t2 = vy at *
    have vASn : vAS.length ≤ 1048576 := by have := VvA.out.len; have := HL.out; omega
    have vAMn : vAM.length ≤ 1048576 := by have := VvA.out.len; have := HL.out; omega
    have vBSn : vBS.length ≤ 1048576 := by have := VvB.out.len; have := HL.out; omega
    have vBMn : vBM.length ≤ 1048576 := by have := VvB.out.len; have := HL.out; omega
    have vCSn : vCS.length ≤ 1048576 := by have := VvC.out.len; have := HL.out; omega
    have vCMn : vCM.length ≤ 1048576 := by have := VvC.out.len; have := HL.out; omega
    have hall := Lib.hid (sac_all VuA.out VuB.out VuC.out VvA.out VvB.out VvC.out)
    obtain ⟨cxk_0, cxk_1, fxk_0, fxk_1⟩ := xk.two
    have l_xk_0 : w1.heap.size < w5.heap.size := by omega
    have l_xk_1 : w1.heap.size < w5.heap.size + 1 := by omega
    have l_xk_2 : w1.heap.size < w5.heap.size + 1 + 1 := by omega
    go_wp2_with fail
    clear cxk_0 cxk_1 fxk_0 fxk_1 l_xk_0 l_xk_1 l_xk_2
    generalize hw6 : World.alloc _ _ = w6
    have z6 : w5.heap.size + 1 + 1 ≤ w6.heap.size := by rw [← hw6]; simp
    have B6 : Below w.heap.size w w6 := by rw [← hw6]; repeat (with_reducible (first | assumption | exact Below.refl _ _ | refine Below.alloc ?_ (by first | omega | (simp; done) | (simp; omega)) _ | refine Below.setCell ?_ (by first | omega | (simp; done) | (simp; omega)) _ | refine Below.drew ?_ | refine below_drewN ?_ _))
    have hK : ∀ k, k < w5.heap.size → w6.heap[k]? = w5.heap[k]? := by
      intro k hk; rw [← hw6]
      repeat (first | rfl | refine (Below.heap_alloc _ _ _ (by first | omega | (simp; omega))).trans ?_)
    have rk_ := rk.keepBlock (w' := w6) (by omega) (fun k h1 h2 => hK k  (by have := rk.2.1; omega))
    clear rk; have rk := rk_; clear rk_
    have rq_ := rq.keepBlock (w' := w6) (by omega) (fun k h1 h2 => hK k  (by have := rq.2.1; omega))
    clear rq; have rq := rq_; clear rq_
    have ru_ := ru.keepBlock (w' := w6) (by omega) (fun k h1 h2 => hK k  (by have := ru.2.1; omega))
    clear ru; have ru := ru_; clear ru_
    have rv_ := rv.keepBlock (w' := w6) (by omega) (fun k h1 h2 => hK k  (by have := rv.2.1; omega))
    clear rv; have rv := rv_; clear rv_
    have xk_ : Box w6 (w1.heap.size) #[.int .i64 (p : Int), .slice kA kn kc] 33 := (by rw [← hw6]; exact ((xk.alloc _).alloc _))
    clear xk; have xk := xk_; clear xk_
    have xt_ : Box w6 (w2.heap.size) #[.int .i64 (ts : Int), .int .i64 (ta : Int)] 40 := (by rw [← hw6]; exact ((xt.alloc _).alloc _))
    clear xt; have xt := xt_; clear xt_
    have xu_ : Box w6 (w4.heap.size) #[.slice uA0 un0 uc0, .slice uA1 un1 uc1, .slice uA2 un2 uc2, .slice uA3 un3 uc3, .slice uA4 un4 uc4, .slice uA5 un5 uc5] 68 := (by rw [← hw6]; exact ((xu.alloc _).alloc _))
    clear xu; have xu := xu_; clear xu_
    have xt2_ : Box w6 (w4.heap.size + 1) #[.int .i64 (ts : Int), .int .i64 t2] 40 := (by rw [← hw6]; exact ((xt2.alloc _).alloc _))
    clear xt2; have xt2 := xt2_; clear xt2_
    have xv_ : Box w6 (w5.heap.size) #[.slice vA0 vn0 vc0, .slice vA1 vn1 vc1, .slice vA2 vn2 vc2, .slice vA3 vn3 vc3, .slice vA4 vn4 vc4, .slice vA5 vn5 vc5] 68 := (by rw [← hw6]; exact ((Box.new (g := w5.heap.size) _ #[.slice vA0 vn0 vc0, .slice vA1 vn1 vc1, .slice vA2 vn2 vc2, .slice vA3 vn3 vc3, .slice vA4 vn4 vc4, .slice vA5 vn5 vc5] 68 (by simp)).alloc _))
    have xv := xv_; clear xv_
    have xt3_ : Box w6 (w5.heap.size + 1) #[.int .i64 (ts : Int), .int .i64 t3] 40 := (by rw [← hw6]; exact (Box.new (g := w5.heap.size + 1) _ #[.int .i64 (ts : Int), .int .i64 t3] 40 (by simp)))
    have xt3 := xt3_; clear xt3_
    clear hw6 hK
    obtain ⟨cxk_0, cxk_1, fxk_0, fxk_1⟩ := xk.two
    have l_xk_0 : w1.heap.size < w6.heap.size := by omega
    obtain ⟨cxu_0, cxu_1, cxu_2, cxu_3, cxu_4, cxu_5, fxu_0, fxu_1, fxu_2, fxu_3, fxu_4, fxu_5⟩ := xu.six
    have l_xu_0 : w4.heap.size < w6.heap.size := by omega
    obtain ⟨cxv_0, cxv_1, cxv_2, cxv_3, cxv_4, cxv_5, fxv_0, fxv_1, fxv_2, fxv_3, fxv_4, fxv_5⟩ := xv.six
    have l_xv_0 : w5.heap.size < w6.heap.size := by omega
    go_wp2_with fail
    clear cxk_0 cxk_1 fxk_0 fxk_1 l_xk_0 cxu_0 cxu_1 cxu_2 cxu_3 cxu_4 cxu_5 fxu_0 fxu_1 fxu_2 fxu_3 fxu_4 fxu_5 l_xu_0 cxv_0 cxv_1 cxv_2 cxv_3 cxv_4 cxv_5 fxv_0 fxv_1 fxv_2 fxv_3 fxv_4 fxv_5 l_xv_0
    refine wp_region_held_drew (S := fun W => W.cell? ⟨w1.heap.size, 0, none⟩ = some (.int .i64 (p : Int)) ∧ W.cell? ⟨w1.heap.size, 1, none⟩ = some (.slice kA kn kc) ∧ W.cell? ⟨w4.heap.size, 0, none⟩ = some (.slice uA0 un0 uc0) ∧ W.cell? ⟨w4.heap.size, 1, none⟩ = some (.slice uA1 un1 uc1) ∧ W.cell? ⟨w4.heap.size, 2, none⟩ = some (.slice uA2 un2 uc2) ∧ W.cell? ⟨w4.heap.size, 3, none⟩ = some (.slice uA3 un3 uc3) ∧ W.cell? ⟨w4.heap.size, 4, none⟩ = some (.slice uA4 un4 uc4) ∧ W.cell? ⟨w4.heap.size, 5, none⟩ = some (.slice uA5 un5 uc5) ∧ W.cell? ⟨w5.heap.size, 0, none⟩ = some (.slice vA0 vn0 vc0) ∧ W.cell? ⟨w5.heap.size, 1, none⟩ = some (.slice vA1 vn1 vc1) ∧ W.cell? ⟨w5.heap.size, 2, none⟩ = some (.slice vA2 vn2 vc2) ∧ W.cell? ⟨w5.heap.size, 3, none⟩ = some (.slice vA3 vn3 vc3) ∧ W.cell? ⟨w5.heap.size, 4, none⟩ = some (.slice vA4 vn4 vc4) ∧ W.cell? ⟨w5.heap.size, 5, none⟩ = some (.slice vA5 vn5 vc5)) (by kernel_rfl) ⟨xk.drew.two.1, xk.drew.two.2.1, xu.drew.six.1, xu.drew.six.2.1, xu.drew.six.2.2.1, xu.drew.six.2.2.2.1, xu.drew.six.2.2.2.2.1, xu.drew.six.2.2.2.2.2.1, xv.drew.six.1, xv.drew.six.2.1, xv.drew.six.2.2.1, xv.drew.six.2.2.2.1, xv.drew.six.2.2.2.2.1, xv.drew.six.2.2.2.2.2.1⟩ (fun hS => ?_)
    (refine tk 0 hS ?_; (try simp only [Act.put, layA, layB, layC]))
    (refine tk 1 hS ?_; (try simp only [Act.put, layA, layB, layC]))
    (refine tk 2 hS ?_; (try simp only [Act.put, layA, layB, layC]))
    (refine tk 4 hS ?_; (try simp only [Act.put, layA, layB, layC]))
    (refine tk 5 hS ?_; (try simp only [Act.put, layA, layB, layC]))
    refine on 3 ?_
    refine callH (by go_simp; (first | done | with_reducible rfl | exact ⟨rfl, rfl⟩)) ?_
    go_at_call 73
    refine (iCountPassingR_L (p : Int) (rk.drew).rd hal (ru.drew).rd uASn uAMn uBSn uBMn uCSn uCMn (rv.drew).rd vASn vAMn vBSn vBMn vCSn vCMn).mono ?_
    rintro e w7 ⟨rfl, b7⟩
    clear hS
    have z7 := Below.size b7
    (try simp only [World.size_alloc, World.size_setCell, size_drew] at z7)
    have B7 : Below w.heap.size w w7 := Below.t b7
    have rk_ := (rk.drew.below b7)
    clear rk; have rk := rk_; clear rk_
    have rq_ := (rq.drew.below b7)
    clear rq; have rq := rq_; clear rq_
    have ru_ := (ru.drew.below b7)
    clear ru; have ru := ru_; clear ru_
    have rv_ := (rv.drew.below b7)
    clear rv; have rv := rv_; clear rv_
    have xk_ : Box w7 (w1.heap.size) #[.int .i64 (p : Int), .slice kA kn kc] 33 := (Box.b xk.drew b7)
    clear xk; have xk := xk_; clear xk_
    have xt_ : Box w7 (w2.heap.size) #[.int .i64 (ts : Int), .int .i64 (ta : Int)] 40 := (Box.b xt.drew b7)
    clear xt; have xt := xt_; clear xt_
    have xu_ : Box w7 (w4.heap.size) #[.slice uA0 un0 uc0, .slice uA1 un1 uc1, .slice uA2 un2 uc2, .slice uA3 un3 uc3, .slice uA4 un4 uc4, .slice uA5 un5 uc5] 68 := (Box.b xu.drew b7)
    clear xu; have xu := xu_; clear xu_
    have xt2_ : Box w7 (w4.heap.size + 1) #[.int .i64 (ts : Int), .int .i64 t2] 40 := (Box.b xt2.drew b7)
    clear xt2; have xt2 := xt2_; clear xt2_
    have xv_ : Box w7 (w5.heap.size) #[.slice vA0 vn0 vc0, .slice vA1 vn1 vc1, .slice vA2 vn2 vc2, .slice vA3 vn3 vc3, .slice vA4 vn4 vc4, .slice vA5 vn5 vc5] 68 := (Box.b xv.drew b7)
    clear xv; have xv := xv_; clear xv_
    have xt3_ : Box w7 (w5.heap.size + 1) #[.int .i64 (ts : Int), .int .i64 t3] 40 := (Box.b xt3.drew b7)
    clear xt3; have xt3 := xt3_; clear xt3_
    refine ⟨.int .i64 (p : Int), by rw [hall.out], ⟨xk.two.1, xk.two.2.1, xu.six.1, xu.six.2.1, xu.six.2.2.1, xu.six.2.2.2.1, xu.six.2.2.2.2.1, xu.six.2.2.2.2.2.1, xv.six.1, xv.six.2.1, xv.six.2.2.1, xv.six.2.2.2.1, xv.six.2.2.2.2.1, xv.six.2.2.2.2.2.1⟩, fun hS => ?_⟩
    (try simp only [Act.put, layA, layB, layC])
    (refine tk 6 hS ?_; (try simp only [Act.put, layA, layB, layC]))
    clear hS
    refine wpAnyH_done (by kernel_rfl) ?_ _
    clear xt
    clear xt2
    clear xt3
    have hIc : Ints w7 uA4 un4 uCS := Rd.toInts (ru.rd (.slice uA4 un4 uc4, .ints uCS) (by simp))
    have hun := Lib.hid hIc.len
    have hu5 := Lib.hid VuC.out.five
    obtain ⟨cxu_0, cxu_1, cxu_2, cxu_3, cxu_4, cxu_5, fxu_0, fxu_1, fxu_2, fxu_3, fxu_4, fxu_5⟩ := xu.six
    have l_xu_0 : w4.heap.size < w7.heap.size := by omega
    have l_xu_1 : w4.heap.size < w7.heap.size + 1 := by omega
    go_wp2_with (at_builtin; go_must (refine append_D rfl _ _ rfl rfl (OwnL.lit0 (Box.new (g := w7.heap.size) _ #[] 3 (by simp))) rfl (Ints.alloc hIc _) (by have := hun.out; have := hu5.out; simp; omega) ?_); intro cA cn cc clo chi w8 rc drc c8)
    clear cxu_0 cxu_1 cxu_2 cxu_3 cxu_4 cxu_5 fxu_0 fxu_1 fxu_2 fxu_3 fxu_4 fxu_5 l_xu_0 l_xu_1
    simp only [List.nil_append] at rc
    have z8 := c8.size
    (try simp only [World.size_alloc, World.size_setCell, size_drew] at z8 drc)
    have B8 : Below w.heap.size w w8 := Below.trans (b := _) (by repeat (with_reducible (first | assumption | exact Below.refl _ _ | refine Below.alloc ?_ (by first | omega | (simp; done) | (simp; omega)) _ | refine Below.setCell ?_ (by first | omega | (simp; done) | (simp; omega)) _ | refine Below.drew ?_ | refine below_drewN ?_ _))) (c8.below (by omega) (by first | omega | (simp [size_drew]; done) | (simp [size_drew]; omega)))
    have rk_ := (rk.alloc _).away c8 (by omega)
    clear rk; have rk := rk_; clear rk_
    have rq_ := (rq.alloc _).away c8 (by omega)
    clear rq; have rq := rq_; clear rq_
    have ru_ := (ru.alloc _).away c8 (by omega)
    clear ru; have ru := ru_; clear ru_
    have rv_ := (rv.alloc _).away c8 (by omega)
    clear rv; have rv := rv_; clear rv_
    have xk_ : Box w8 (w1.heap.size) #[.int .i64 (p : Int), .slice kA kn kc] 33 := (xk.alloc _).chg c8 (by omega)
    clear xk; have xk := xk_; clear xk_
    have xu_ : Box w8 (w4.heap.size) #[.slice uA0 un0 uc0, .slice uA1 un1 uc1, .slice uA2 un2 uc2, .slice uA3 un3 uc3, .slice uA4 un4 uc4, .slice uA5 un5 uc5] 68 := (xu.alloc _).chg c8 (by omega)
    clear xu; have xu := xu_; clear xu_
    have xv_ : Box w8 (w5.heap.size) #[.slice vA0 vn0 vc0, .slice vA1 vn1 vc1, .slice vA2 vn2 vc2, .slice vA3 vn3 vc3, .slice vA4 vn4 vc4, .slice vA5 vn5 vc5] 68 := (xv.alloc _).chg c8 (by omega)
    clear xv; have xv := xv_; clear xv_
    clear hIc c8
    have rc2 := rc.2.1
    obtain ⟨gc, rfl⟩ := olAt0 rc (by have := hu5.out; omega)
    obtain ⟨q0l, q0h⟩ := HA.out (nth l 0) (by rw [nth_lt (by rw [Hl.out]; omega)]; exact List.getElem_mem _)
    obtain ⟨c0, hc0⟩ : ∃ x, Hid (nth uCS 0 = x) := ⟨_, rfl⟩
    have ec0 : Hid (elem (p : Int) c0 = true) := by show _ = true; rw [← hc0.out]; exact VuC.out.at0
    have bc0 := (elem_iff.1 ec0.out).2
    have e1 : (nth l 0).tmod ((p : Int) - 1) = nth l 0 % ((p : Int) - 1) := Int.tmod_eq_emod_of_nonneg q0l
    have be0 := Int.emod_nonneg (nth l 0) (show (p : Int) - 1 ≠ 0 by omega)
    have be1 := Int.emod_lt_of_pos (nth l 0) (show 0 < (p : Int) - 1 by omega)
    obtain ⟨d0, hd0⟩ : ∃ x, Hid (nth l 0 % ((p : Int) - 1) = x) := ⟨_, rfl⟩
    rw [hd0.out] at e1 be0 be1
    have hp3 : ¬ ((p : Int) - 1 = 0) := by omega
    have hcn0 : 0 < cn := by have := olLen1 rc; have := hu5.out; omega
    have hw0 : IntKind.i64.wrap (c0 + 1) = c0 + 1 := by (rw [IntKind.wrap_i64]; (first | omega | (unfold wrap64; omega)))
    have hw1 : IntKind.i64.wrap ((p : Int) - 1) = (p : Int) - 1 := by (rw [IntKind.wrap_i64]; (first | omega | (unfold wrap64; omega)))
    have hw2 : IntKind.i64.wrap (c0 + 1 + d0) = c0 + 1 + d0 := by (rw [IntKind.wrap_i64]; (first | omega | (unfold wrap64; omega)))
    have ht2 : (c0 + 1 + d0).tmod (p : Int) = (c0 + 1 + d0) % (p : Int) := Int.tmod_eq_emod_of_nonneg (by omega)
    obtain ⟨cxk_0, cxk_1, fxk_0, fxk_1⟩ := xk.two
    have l_xk_0 : w1.heap.size < w8.heap.size := by omega
    go_wp2_with fail
    clear cxk_0 cxk_1 fxk_0 fxk_1 l_xk_0
    refine wp_region_held_drew (S := fun W => W.cell? ⟨w1.heap.size, 0, none⟩ = some (.int .i64 (p : Int)) ∧ W.cell? ⟨w1.heap.size, 1, none⟩ = some (.slice kA kn kc) ∧ W.cell? ⟨gp, op, none⟩ = some (.int .i64 (nth l 0))) (by kernel_rfl) ⟨xk.drew.two.1, xk.drew.two.2.1, (ownCell (l := l) (rq.drew) (List.mem_cons_self) 0 (by rw [Hl.out]; omega))⟩ (fun hS => ?_)
    (refine tk 0 hS ?_; (try simp only [Act.put, layA, layB, layC]))
    (refine tk 1 hS ?_; (try simp only [Act.put, layA, layB, layC]))
    (refine tk 2 hS ?_; (try simp only [Act.put, layA, layB, layC]))
    (refine tk 5 hS ?_; (try simp only [Act.put, layA, layB, layC]))
    (refine tk 6 hS ?_; (try simp only [Act.put, layA, layB, layC]))
    (refine tk 7 hS ?_; (try simp only [Act.put, layA, layB, layC]))
    (refine tk 8 hS ?_; (try simp only [Act.put, layA, layB, layC]))
    (refine tk 9 hS ?_; (try simp only [Act.put, layA, layB, layC]))
    (refine tk 10 hS ?_; (try simp only [Act.put, layA, layB, layC]))
    (refine tk 11 hS ?_; (try simp only [Act.put, layA, layB, layC]))
    (refine tk 13 hS ?_; (try simp only [Act.put, layA, layB, layC]))
    (refine tk 14 hS ?_; (try simp only [Act.put, layA, layB, layC]))
    refine on 3 ?_
    have hcs : w8.cell? ⟨gc, 0, none⟩ = some (.int .i64 c0) := by rw [← hc0.out]; exact olCell0 rc 0 (by have := hu5.out; omega)
    refine valueH (by go_simp; (first | done | with_reducible rfl | exact ⟨rfl, rfl⟩)) hS (fun hS => ?_)
    clear hcs
    (try simp only [Act.put, layA, layB, layC])
    (refine tk 4 hS ?_; (try simp only [Act.put, layA, layB, layC]))
    (refine tk 12 hS ?_; (try simp only [Act.put, layA, layB, layC]))
    (refine tk 15 hS ?_; (try simp only [Act.put, layA, layB, layC]))
    (refine tk 16 hS ?_; (try simp only [Act.put, layA, layB, layC]))
    refine on 17 ?_
    have hcs := olCell0 rc 0 (by have := hu5.out; omega)
    have hfs := olFrozen0 rc 0
    obtain ⟨hst1, hst2⟩ := olStored (rc) 0 ((c0 + 1 + d0) % (p : Int))
    refine skipH (by go_simp; (first | done | with_reducible rfl | exact ⟨rfl, rfl⟩)) ?_ (fun hS_ => ?_)
    · generalize World.setCell _ _ _ = wz at hst1 hst2 ⊢
      exact ⟨(xk.chg hst2 (by omega)).drew.two.1, (xk.chg hst2 (by omega)).drew.two.2.1, (ownCell (l := l) (rq.away hst2 (by omega)) (List.mem_cons_self) 0 (by rw [Hl.out]; omega))⟩
    generalize World.setCell _ _ _ = w9 at hst1 hst2 hS_ ⊢
    clear hcs hfs hS
    have hS := hS_
    clear hS_
    have z9 := hst2.size
    (try simp only [World.size_alloc, World.size_setCell, size_drew] at z9)
    have B9 : Below w.heap.size w w9 := Below.trans (b := _) (by repeat (with_reducible (first | assumption | exact Below.refl _ _ | refine Below.alloc ?_ (by first | omega | (simp; done) | (simp; omega)) _ | refine Below.setCell ?_ (by first | omega | (simp; done) | (simp; omega)) _ | refine Below.drew ?_ | refine below_drewN ?_ _))) (hst2.below (by omega) (by first | omega | (simp [size_drew]; done) | (simp [size_drew]; omega)))
    clear rc; have rc := hst1; clear hst1
    have rk_ := (rk).away hst2 (by omega)
    clear rk; have rk := rk_; clear rk_
    have rq_ := (rq).away hst2 (by omega)
    clear rq; have rq := rq_; clear rq_
    have ru_ := (ru).away hst2 (by omega)
    clear ru; have ru := ru_; clear ru_
    have rv_ := (rv).away hst2 (by omega)
    clear rv; have rv := rv_; clear rv_
    have xk_ : Box w9 (w1.heap.size) #[.int .i64 (p : Int), .slice kA kn kc] 33 := (xk).chg hst2 (by omega)
    clear xk; have xk := xk_; clear xk_
    have xu_ : Box w9 (w4.heap.size) #[.slice uA0 un0 uc0, .slice uA1 un1 uc1, .slice uA2 un2 uc2, .slice uA3 un3 uc3, .slice uA4 un4 uc4, .slice uA5 un5 uc5] 68 := (xu).chg hst2 (by omega)
    clear xu; have xu := xu_; clear xu_
    have xv_ : Box w9 (w5.heap.size) #[.slice vA0 vn0 vc0, .slice vA1 vn1 vc1, .slice vA2 vn2 vc2, .slice vA3 vn3 vc3, .slice vA4 vn4 vc4, .slice vA5 vn5 vc5] 68 := (xv).chg hst2 (by omega)
    clear xv; have xv := xv_; clear xv_
    clear hst2
    (try simp only [Act.put, layA, layB, layC])
    clear hS
    refine wpAnyH_done (by kernel_rfl) ?_ _
    generalize hw10 : World.drew _ = w10
    have z10 : w9.heap.size ≤ w10.heap.size := by rw [← hw10]; simp [size_drew]
    have B10 : Below w.heap.size w w10 := by rw [← hw10]; repeat (with_reducible (first | assumption | exact Below.refl _ _ | refine Below.alloc ?_ (by first | omega | (simp; done) | (simp; omega)) _ | refine Below.setCell ?_ (by first | omega | (simp; done) | (simp; omega)) _ | refine Below.drew ?_ | refine below_drewN ?_ _))
    have hK : ∀ k, k < w9.heap.size → w10.heap[k]? = w9.heap[k]? := by
      intro k hk; rw [← hw10]
      repeat (first | rfl | refine (Below.heap_alloc _ _ _ (by first | omega | (simp; omega))).trans ?_)
    have rk_ := rk.keepBlock (w' := w10) (by omega) (fun k h1 h2 => hK k  (by have := rk.2.1; omega))
    clear rk; have rk := rk_; clear rk_
    have rq_ := rq.keepBlock (w' := w10) (by omega) (fun k h1 h2 => hK k  (by have := rq.2.1; omega))
    clear rq; have rq := rq_; clear rq_
    have ru_ := ru.keepBlock (w' := w10) (by omega) (fun k h1 h2 => hK k  (by have := ru.2.1; omega))
    clear ru; have ru := ru_; clear ru_
    have rv_ := rv.keepBlock (w' := w10) (by omega) (fun k h1 h2 => hK k  (by have := rv.2.1; omega))
    clear rv; have rv := rv_; clear rv_
    have rc_ := rc.keepBlock (w' := w10) (by omega) (fun k h1 h2 => hK k  (by have := rc.2.1; omega))
    clear rc; have rc := rc_; clear rc_
    have xk_ : Box w10 (w1.heap.size) #[.int .i64 (p : Int), .slice kA kn kc] 33 := (by rw [← hw10]; exact xk)
    clear xk; have xk := xk_; clear xk_
    have xu_ : Box w10 (w4.heap.size) #[.slice uA0 un0 uc0, .slice uA1 un1 uc1, .slice uA2 un2 uc2, .slice uA3 un3 uc3, .slice uA4 un4 uc4, .slice uA5 un5 uc5] 68 := (by rw [← hw10]; exact xu)
    clear xu; have xu := xu_; clear xu_
    have xv_ : Box w10 (w5.heap.size) #[.slice vA0 vn0 vc0, .slice vA1 vn1 vc1, .slice vA2 vn2 vc2, .slice vA3 vn3 vc3, .slice vA4 vn4 vc4, .slice vA5 vn5 vc5] 68 := (by rw [← hw10]; exact xv)
    clear xv; have xv := xv_; clear xv_
    clear hw10 hK
    clear hw0 hw1 hw2 ht2 e1 hp3 hcn0
    have bk : 1 ≤ 1 + d0 ∧ 1 + d0 < (p : Int) := by omega
    rw [set_const VuC.out hc0.out bk.1 bk.2] at rc
    obtain ⟨_, hcnt, hsk⟩ := sac_wrong VuA.out VuB.out VuC.out bk.1 bk.2 VvA.out VvB.out VvC.out
    have hcnt := Lib.hid hcnt
    have hsk := Lib.hid hsk
    have hCn : (constL (p : Int) uCS (1 + d0)).length ≤ 1048576 := Nat.le_trans (constL_len _ _ _) uCSn
    generalize constL (p : Int) uCS (1 + d0) = wCS at *
    clear hu5 hun
    obtain ⟨cxu_0, cxu_1, cxu_2, cxu_3, cxu_4, cxu_5, fxu_0, fxu_1, fxu_2, fxu_3, fxu_4, fxu_5⟩ := xu.six
    have l_xu_0 : w4.heap.size < w10.heap.size := by omega
    obtain ⟨cxk_0, cxk_1, fxk_0, fxk_1⟩ := xk.two
    have l_xk_0 : w1.heap.size < w10.heap.size := by omega
    obtain ⟨cxv_0, cxv_1, cxv_2, cxv_3, cxv_4, cxv_5, fxv_0, fxv_1, fxv_2, fxv_3, fxv_4, fxv_5⟩ := xv.six
    have l_xv_0 : w5.heap.size < w10.heap.size := by omega
    go_wp2_with fail
    refine (iCountPassingR_L (p : Int) ((rk.setBox (by omega))).rd hal (RdL.fifth ((ru.setBox (by omega))).rd ((rc.setBox (by omega))).rd) uASn uAMn uBSn uBMn hCn uCMn ((rv.setBox (by omega))).rd vASn vAMn vBSn vBMn vCSn vCMn).mono ?_
    rintro e w11 ⟨rfl, b11⟩
    clear cxu_0 cxu_1 cxu_2 cxu_3 cxu_4 cxu_5 fxu_0 fxu_1 fxu_2 fxu_3 fxu_4 fxu_5 l_xu_0 cxk_0 cxk_1 fxk_0 fxk_1 l_xk_0 cxv_0 cxv_1 cxv_2 cxv_3 cxv_4 cxv_5 fxv_0 fxv_1 fxv_2 fxv_3 fxv_4 fxv_5 l_xv_0
    have z11 := b11.size
    try simp only [World.size_alloc, World.size_setCell, size_drew] at z11
    have B11 : Below w.heap.size w w11 := Below.t b11
    have rk_ := (rk.setBox (by omega)).below b11
    clear rk; have rk := rk_; clear rk_
    have rq_ := (rq.setBox (by omega)).below b11
    clear rq; have rq := rq_; clear rq_
    have ru_ := (ru.setBox (by omega)).below b11
    clear ru; have ru := ru_; clear ru_
    have rv_ := (rv.setBox (by omega)).below b11
    clear rv; have rv := rv_; clear rv_
    have rc_ := (rc.setBox (by omega)).below b11
    clear rc; have rc := rc_; clear rc_
    have xk_ : Box w11 (w1.heap.size) #[.int .i64 (p : Int), .slice kA kn kc] 33 := (xk.far (by omega)).below b11 (by first | omega | (simp [size_drew]; done) | (simp [size_drew]; omega))
    clear xk; have xk := xk_; clear xk_
    have xu_ : Box w11 (w4.heap.size) #[.slice uA0 un0 uc0, .slice uA1 un1 uc1, .slice uA2 un2 uc2, .slice uA3 un3 uc3, .slice (some ⟨gc, 0, none⟩) cn cc, .slice uA5 un5 uc5] 68 := (xu.setAt (i := 4) (v := .slice (some ⟨gc, 0, none⟩) cn cc) (ds := #[.slice uA0 un0 uc0, .slice uA1 un1 uc1, .slice uA2 un2 uc2, .slice uA3 un3 uc3, .slice (some ⟨gc, 0, none⟩) cn cc, .slice uA5 un5 uc5]) (by simp)).below b11 (by first | omega | (simp [size_drew]; done) | (simp [size_drew]; omega))
    clear xu; have xu := xu_; clear xu_
    have xv_ : Box w11 (w5.heap.size) #[.slice vA0 vn0 vc0, .slice vA1 vn1 vc1, .slice vA2 vn2 vc2, .slice vA3 vn3 vc3, .slice vA4 vn4 vc4, .slice vA5 vn5 vc5] 68 := (xv.far (by omega)).below b11 (by first | omega | (simp [size_drew]; done) | (simp [size_drew]; omega))
    clear xv; have xv := xv_; clear xv_
    rw [hcnt.out]
    obtain ⟨q1l, q1h⟩ := HA.out (nth l 1) (by rw [nth_lt (by rw [Hl.out]; omega)]; exact List.getElem_mem _)
    have e1 : (nth l 1).tmod (p : Int) = nth l 1 % (p : Int) := Int.tmod_eq_emod_of_nonneg q1l
    have hll := Hl.out
    have hso := Lib.hid (sop_yes VuA.out VuB.out VvA.out VvB.out (elem_mod HF.out (nth l 1)))
    obtain ⟨cxk_0, cxk_1, fxk_0, fxk_1⟩ := xk.two
    have l_xk_0 : w1.heap.size < w11.heap.size := by omega
    obtain ⟨cxu_0, cxu_1, cxu_2, cxu_3, cxu_4, cxu_5, fxu_0, fxu_1, fxu_2, fxu_3, fxu_4, fxu_5⟩ := xu.six
    have l_xu_0 : w4.heap.size < w11.heap.size := by omega
    obtain ⟨cxv_0, cxv_1, cxv_2, cxv_3, cxv_4, cxv_5, fxv_0, fxv_1, fxv_2, fxv_3, fxv_4, fxv_5⟩ := xv.six
    have l_xv_0 : w5.heap.size < w11.heap.size := by omega
    go_wp2_with fail
    clear cxk_0 cxk_1 fxk_0 fxk_1 l_xk_0 cxu_0 cxu_1 cxu_2 cxu_3 cxu_4 cxu_5 fxu_0 fxu_1 fxu_2 fxu_3 fxu_4 fxu_5 l_xu_0 cxv_0 cxv_1 cxv_2 cxv_3 cxv_4 cxv_5 fxv_0 fxv_1 fxv_2 fxv_3 fxv_4 fxv_5 l_xv_0
    refine wp_region_M [14] (w11.heap.size) 16 (S := fun W => Below w.heap.size w W ∧ Below w11.heap.size w11 W ∧ W.cell? ⟨w1.heap.size, 0, none⟩ = some (.int .i64 (p : Int)) ∧ W.cell? ⟨w1.heap.size, 1, none⟩ = some (.slice kA kn kc) ∧ W.cell? ⟨w4.heap.size, 0, none⟩ = some (.slice uA0 un0 uc0) ∧ W.cell? ⟨w4.heap.size, 1, none⟩ = some (.slice uA1 un1 uc1) ∧ W.cell? ⟨w4.heap.size, 2, none⟩ = some (.slice uA2 un2 uc2) ∧ W.cell? ⟨w4.heap.size, 3, none⟩ = some (.slice uA3 un3 uc3) ∧ W.cell? ⟨w4.heap.size, 4, none⟩ = some (.slice (some ⟨gc, 0, none⟩) cn cc) ∧ W.cell? ⟨w4.heap.size, 5, none⟩ = some (.slice uA5 un5 uc5) ∧ W.cell? ⟨w5.heap.size, 0, none⟩ = some (.slice vA0 vn0 vc0) ∧ W.cell? ⟨w5.heap.size, 1, none⟩ = some (.slice vA1 vn1 vc1) ∧ W.cell? ⟨w5.heap.size, 2, none⟩ = some (.slice vA2 vn2 vc2) ∧ W.cell? ⟨w5.heap.size, 3, none⟩ = some (.slice vA3 vn3 vc3) ∧ W.cell? ⟨w5.heap.size, 4, none⟩ = some (.slice vA4 vn4 vc4) ∧ W.cell? ⟨w5.heap.size, 5, none⟩ = some (.slice vA5 vn5 vc5) ∧ W.cell? ⟨gp, op + 1, none⟩ = some (.int .i64 (nth l 1))) (by kernel_rfl) (by rfl) (fun W hW => ⟨Below.trans (b := _) (by repeat (with_reducible (first | assumption | exact Below.refl _ _ | refine Below.alloc ?_ (by first | omega | (simp; done) | (simp; omega)) _ | refine Below.setCell ?_ (by first | omega | (simp; done) | (simp; omega)) _ | refine Below.drew ?_ | refine below_drewN ?_ _))) (Below.mono hW (by first | omega | (simp [size_drew]; done) | (simp [size_drew]; omega))), Below.trans (b := _) (by repeat (with_reducible (first | assumption | exact Below.refl _ _ | refine Below.alloc ?_ (by first | omega | (simp; done) | (simp; omega)) _ | refine Below.setCell ?_ (by first | omega | (simp; done) | (simp; omega)) _ | refine Below.drew ?_ | refine below_drewN ?_ _))) (Below.mono hW (by first | omega | (simp [size_drew]; done) | (simp [size_drew]; omega))), (Box.below xk.drew hW (by first | omega | (simp [size_drew]; done) | (simp [size_drew]; omega))).two.1, (Box.below xk.drew hW (by first | omega | (simp [size_drew]; done) | (simp [size_drew]; omega))).two.2.1, (Box.below xu.drew hW (by first | omega | (simp [size_drew]; done) | (simp [size_drew]; omega))).six.1, (Box.below xu.drew hW (by first | omega | (simp [size_drew]; done) | (simp [size_drew]; omega))).six.2.1, (Box.below xu.drew hW (by first | omega | (simp [size_drew]; done) | (simp [size_drew]; omega))).six.2.2.1, (Box.below xu.drew hW (by first | omega | (simp [size_drew]; done) | (simp [size_drew]; omega))).six.2.2.2.1, (Box.below xu.drew hW (by first | omega | (simp [size_drew]; done) | (simp [size_drew]; omega))).six.2.2.2.2.1, (Box.below xu.drew hW (by first | omega | (simp [size_drew]; done) | (simp [size_drew]; omega))).six.2.2.2.2.2.1, (Box.below xv.drew hW (by first | omega | (simp [size_drew]; done) | (simp [size_drew]; omega))).six.1, (Box.below xv.drew hW (by first | omega | (simp [size_drew]; done) | (simp [size_drew]; omega))).six.2.1, (Box.below xv.drew hW (by first | omega | (simp [size_drew]; done) | (simp [size_drew]; omega))).six.2.2.1, (Box.below xv.drew hW (by first | omega | (simp [size_drew]; done) | (simp [size_drew]; omega))).six.2.2.2.1, (Box.below xv.drew hW (by first | omega | (simp [size_drew]; done) | (simp [size_drew]; omega))).six.2.2.2.2.1, (Box.below xv.drew hW (by first | omega | (simp [size_drew]; done) | (simp [size_drew]; omega))).six.2.2.2.2.2.1, (OwnL.cellAt ((rq.drew).below hW) 1 (by omega))⟩) (by first | omega | (simp [size_drew]; done) | (simp [size_drew]; omega)) (fun hS hG => ?_)
    (try dsimp only at hS)
    refine pendM 13 12 #[.int .i64 0, .int .i64 0] 73 (by simp only [List.getElem?_toArray, List.getElem?_cons_succ, List.getElem?_cons_zero] <;> rfl) (by kernel_rfl) (by exact fun _ _ _ _ h => h) (by intro a W; unfold ptr; go_simp; (first | done | rfl)) hG ?_
    (refine tkM 0 hG hS ?_; (try simp only [Act.put, layA, layB, layC]))
    (refine tkM 1 hG hS ?_; (try simp only [Act.put, layA, layB, layC]))
    (refine tkM 2 hG hS ?_; (try simp only [Act.put, layA, layB, layC]))
    (refine tkM 3 hG hS ?_; (try simp only [Act.put, layA, layB, layC]))
    (refine tkM 4 hG hS ?_; (try simp only [Act.put, layA, layB, layC]))
    (refine tkM 5 hG hS ?_; (try simp only [Act.put, layA, layB, layC]))
    (refine tkM 6 hG hS ?_; (try simp only [Act.put, layA, layB, layC]))
    (refine tkM 7 hG hS ?_; (try simp only [Act.put, layA, layB, layC]))
    (refine tkM 8 hG hS ?_; (try simp only [Act.put, layA, layB, layC]))
    refine callM hG (i := 9) (by simp only [List.getElem?_toArray, List.getElem?_cons_succ, List.getElem?_cons_zero] <;> rfl) (by kernel_rfl) (by rfl) (by rfl) (by intro W hW; have hSw := hS W hW; (try dsimp only at hSw); go_simp; (first | done | with_reducible rfl | exact ⟨rfl, rfl⟩)) ?_
    intro w12 b12
    have B12 : Below w.heap.size w w12 := (hS w12 b12).1
    have z12 := Below.size b12
    (try simp only [World.size_alloc, World.size_setCell, size_drew] at z12)
    have rk_ := (rk.drew.below b12)
    clear rk; have rk := rk_; clear rk_
    have rq_ := (rq.drew.below b12)
    clear rq; have rq := rq_; clear rq_
    have ru_ := (ru.drew.below b12)
    clear ru; have ru := ru_; clear ru_
    have rv_ := (rv.drew.below b12)
    clear rv; have rv := rv_; clear rv_
    have rc_ := (rc.drew.below b12)
    clear rc; have rc := rc_; clear rc_
    have xk_ : Box w12 (w1.heap.size) #[.int .i64 (p : Int), .slice kA kn kc] 33 := (Box.b xk.drew b12)
    clear xk; have xk := xk_; clear xk_
    have xu_ : Box w12 (w4.heap.size) #[.slice uA0 un0 uc0, .slice uA1 un1 uc1, .slice uA2 un2 uc2, .slice uA3 un3 uc3, .slice (some ⟨gc, 0, none⟩) cn cc, .slice uA5 un5 uc5] 68 := (Box.b xu.drew b12)
    clear xu; have xu := xu_; clear xu_
    have xv_ : Box w12 (w5.heap.size) #[.slice vA0 vn0 vc0, .slice vA1 vn1 vc1, .slice vA2 vn2 vc2, .slice vA3 vn3 vc3, .slice vA4 vn4 vc4, .slice vA5 vn5 vc5] 68 := (Box.b xv.drew b12)
    clear xv; have xv := xv_; clear xv_
    clear hS hG
    go_at_call 67
    refine (iSacrificeOpen_L (p : Int) (rk).rd hal (RdL.fifth (ru).rd (rc).rd) uASn uAMn uBSn uBMn hCn uCMn (rv).rd vASn vAMn vBSn vBMn vCSn vCMn (nth l 1 % (p : Int))).mono ?_
    rintro e w13 ⟨rfl, b13⟩
    refine ⟨.tuple #[.agg #[.int .i64 (soD (p : Int) al uAS uAM uBS uBM vAS vAM vBS vBM (nth l 1 % (p : Int))), .int .i64 (soE (p : Int) al uAS uAM uBS uBM vAS vAM vBS vBM (nth l 1 % (p : Int)))], .bool true], by rw [hso.out], b13, fun hG => ?_⟩
    have z13 := Below.size b13
    have B13 : Below w.heap.size w w13 := Below.t b13
    have rk_ := (rk.below b13)
    clear rk; have rk := rk_; clear rk_
    have rq_ := (rq.below b13)
    clear rq; have rq := rq_; clear rq_
    have ru_ := (ru.below b13)
    clear ru; have ru := ru_; clear ru_
    have rv_ := (rv.below b13)
    clear rv; have rv := rv_; clear rv_
    have rc_ := (rc.below b13)
    clear rc; have rc := rc_; clear rc_
    have xk_ : Box w13 (w1.heap.size) #[.int .i64 (p : Int), .slice kA kn kc] 33 := (Box.b xk b13)
    clear xk; have xk := xk_; clear xk_
    have xu_ : Box w13 (w4.heap.size) #[.slice uA0 un0 uc0, .slice uA1 un1 uc1, .slice uA2 un2 uc2, .slice uA3 un3 uc3, .slice (some ⟨gc, 0, none⟩) cn cc, .slice uA5 un5 uc5] 68 := (Box.b xu b13)
    clear xu; have xu := xu_; clear xu_
    have xv_ : Box w13 (w5.heap.size) #[.slice vA0 vn0 vc0, .slice vA1 vn1 vc1, .slice vA2 vn2 vc2, .slice vA3 vn3 vc3, .slice vA4 vn4 vc4, .slice vA5 vn5 vc5] 68 := (Box.b xv b13)
    clear xv; have xv := xv_; clear xv_
    (try simp only [Act.put, layA, layB, layC])
    have hS : ∀ W, Later w13 W → (Below w.heap.size w W ∧ Below w13.heap.size w13 W ∧ W.cell? ⟨w1.heap.size, 0, none⟩ = some (.int .i64 (p : Int)) ∧ W.cell? ⟨w1.heap.size, 1, none⟩ = some (.slice kA kn kc) ∧ W.cell? ⟨w4.heap.size, 0, none⟩ = some (.slice uA0 un0 uc0) ∧ W.cell? ⟨w4.heap.size, 1, none⟩ = some (.slice uA1 un1 uc1) ∧ W.cell? ⟨w4.heap.size, 2, none⟩ = some (.slice uA2 un2 uc2) ∧ W.cell? ⟨w4.heap.size, 3, none⟩ = some (.slice uA3 un3 uc3) ∧ W.cell? ⟨w4.heap.size, 4, none⟩ = some (.slice (some ⟨gc, 0, none⟩) cn cc) ∧ W.cell? ⟨w4.heap.size, 5, none⟩ = some (.slice uA5 un5 uc5) ∧ W.cell? ⟨w5.heap.size, 0, none⟩ = some (.slice vA0 vn0 vc0) ∧ W.cell? ⟨w5.heap.size, 1, none⟩ = some (.slice vA1 vn1 vc1) ∧ W.cell? ⟨w5.heap.size, 2, none⟩ = some (.slice vA2 vn2 vc2) ∧ W.cell? ⟨w5.heap.size, 3, none⟩ = some (.slice vA3 vn3 vc3) ∧ W.cell? ⟨w5.heap.size, 4, none⟩ = some (.slice vA4 vn4 vc4) ∧ W.cell? ⟨w5.heap.size, 5, none⟩ = some (.slice vA5 vn5 vc5) ∧ W.cell? ⟨gp, op + 1, none⟩ = some (.int .i64 (nth l 1))) := fun W hW => ⟨Below.trans (b := _) (by repeat (with_reducible (first | assumption | exact Below.refl _ _ | refine Below.alloc ?_ (by first | omega | (simp; done) | (simp; omega)) _ | refine Below.setCell ?_ (by first | omega | (simp; done) | (simp; omega)) _ | refine Below.drew ?_ | refine below_drewN ?_ _))) (Below.mono hW (by first | omega | (simp [size_drew]; done) | (simp [size_drew]; omega))), Below.trans (b := _) (by repeat (with_reducible (first | assumption | exact Below.refl _ _ | refine Below.alloc ?_ (by first | omega | (simp; done) | (simp; omega)) _ | refine Below.setCell ?_ (by first | omega | (simp; done) | (simp; omega)) _ | refine Below.drew ?_ | refine below_drewN ?_ _))) (Below.mono hW (by first | omega | (simp [size_drew]; done) | (simp [size_drew]; omega))), (Box.below xk hW (by first | omega | (simp [size_drew]; done) | (simp [size_drew]; omega))).two.1, (Box.below xk hW (by first | omega | (simp [size_drew]; done) | (simp [size_drew]; omega))).two.2.1, (Box.below xu hW (by first | omega | (simp [size_drew]; done) | (simp [size_drew]; omega))).six.1, (Box.below xu hW (by first | omega | (simp [size_drew]; done) | (simp [size_drew]; omega))).six.2.1, (Box.below xu hW (by first | omega | (simp [size_drew]; done) | (simp [size_drew]; omega))).six.2.2.1, (Box.below xu hW (by first | omega | (simp [size_drew]; done) | (simp [size_drew]; omega))).six.2.2.2.1, (Box.below xu hW (by first | omega | (simp [size_drew]; done) | (simp [size_drew]; omega))).six.2.2.2.2.1, (Box.below xu hW (by first | omega | (simp [size_drew]; done) | (simp [size_drew]; omega))).six.2.2.2.2.2.1, (Box.below xv hW (by first | omega | (simp [size_drew]; done) | (simp [size_drew]; omega))).six.1, (Box.below xv hW (by first | omega | (simp [size_drew]; done) | (simp [size_drew]; omega))).six.2.1, (Box.below xv hW (by first | omega | (simp [size_drew]; done) | (simp [size_drew]; omega))).six.2.2.1, (Box.below xv hW (by first | omega | (simp [size_drew]; done) | (simp [size_drew]; omega))).six.2.2.2.1, (Box.below xv hW (by first | omega | (simp [size_drew]; done) | (simp [size_drew]; omega))).six.2.2.2.2.1, (Box.below xv hW (by first | omega | (simp [size_drew]; done) | (simp [size_drew]; omega))).six.2.2.2.2.2.1, (OwnL.cellAt ((rq).below hW) 1 (by omega))⟩
    (refine tkM 10 hG hS ?_; (try simp only [Act.put, layA, layB, layC]))
    (refine tkM 11 hG hS ?_; (try simp only [Act.put, layA, layB, layC]))
    (refine tkY 12 hG ?_; (try simp only [Act.put, layA, layB, layC]))
    refine storeM (z := 14) (by simp only [List.getElem?_toArray, List.getElem?_cons_succ, List.getElem?_cons_zero] <;> rfl) (by kernel_rfl) (by rfl) (by rfl) ?_
    intro w14 b14
    have B14 : Below w.heap.size w w14 := (hS w14 b14).1
    have z14 := Below.size b14
    (try simp only [World.size_alloc, World.size_setCell, size_drew] at z14)
    have rk_ := (rk.below b14)
    clear rk; have rk := rk_; clear rk_
    have rq_ := (rq.below b14)
    clear rq; have rq := rq_; clear rq_
    have ru_ := (ru.below b14)
    clear ru; have ru := ru_; clear ru_
    have rv_ := (rv.below b14)
    clear rv; have rv := rv_; clear rv_
    have rc_ := (rc.below b14)
    clear rc; have rc := rc_; clear rc_
    have xk_ : Box w14 (w1.heap.size) #[.int .i64 (p : Int), .slice kA kn kc] 33 := (Box.b xk b14)
    clear xk; have xk := xk_; clear xk_
    have xu_ : Box w14 (w4.heap.size) #[.slice uA0 un0 uc0, .slice uA1 un1 uc1, .slice uA2 un2 uc2, .slice uA3 un3 uc3, .slice (some ⟨gc, 0, none⟩) cn cc, .slice uA5 un5 uc5] 68 := (Box.b xu b14)
    clear xu; have xu := xu_; clear xu_
    have xv_ : Box w14 (w5.heap.size) #[.slice vA0 vn0 vc0, .slice vA1 vn1 vc1, .slice vA2 vn2 vc2, .slice vA3 vn3 vc3, .slice vA4 vn4 vc4, .slice vA5 vn5 vc5] 68 := (Box.b xv b14)
    clear xv; have xv := xv_; clear xv_
    clear hS hG
    refine Zc.cons fun gxo xo nxo => ?_
    have nxo_0 := nxo (w12.heap.size, w13.heap.size) (by simp)
    dsimp only at nxo_0 xo
    have nxo_1 := nxo (0, w11.heap.size) (by simp)
    dsimp only at nxo_1 xo
    clear nxo
    refine Zc.nil ?_
    (try unfold ptr)
    (try simp only [Act.put, layA, layB, layC])
    have lxo := xo.lt
    obtain ⟨cxo_0, cxo_1, fxo_0, fxo_1⟩ := xo.two
    refine ⟨_, by go_simp; (first | done | with_reducible rfl | exact ⟨rfl, rfl⟩), ?_⟩
    (try simp only [Act.put, layA, layB, layC])
    refine onlyAny (i := 15) (by simp only [List.getElem?_toArray, List.getElem?_cons_succ, List.getElem?_cons_zero] <;> rfl) (by kernel_rfl) (by rfl) (by go_simp; (first | done | with_reducible rfl | exact ⟨rfl, rfl⟩)) ?_
    (try simp only [Act.put, layA, layB, layC])
    refine wpAny_done (by kernel_rfl) ?_ _
    clear cxo_0 cxo_1 fxo_0 fxo_1
    generalize hw15 : World.setCell _ _ _ = w15
    have z15 : w14.heap.size ≤ w15.heap.size := by rw [← hw15]; simp
    have B15 : Below w.heap.size w w15 := by rw [← hw15]; repeat (with_reducible (first | assumption | exact Below.refl _ _ | refine Below.alloc ?_ (by first | omega | (simp; done) | (simp; omega)) _ | refine Below.setCell ?_ (by first | omega | (simp; done) | (simp; omega)) _ | refine Below.drew ?_ | refine below_drewN ?_ _))
    have hK : ∀ k, k ≠ gxo → k < w14.heap.size → w15.heap[k]? = w14.heap[k]? := by
      intro k h0 _; rw [← hw15]
      repeat (first | rfl | refine (Below.heap_setCell _ _ _ _ (by first | exact h0)).trans ?_)
    have rk_ := rk.keepBlock z15 (fun k h1 h2 => hK k (by omega) (by have := rk.2.1; omega))
    clear rk; have rk := rk_; clear rk_
    have rq_ := rq.keepBlock z15 (fun k h1 h2 => hK k (by omega) (by have := rq.2.1; omega))
    clear rq; have rq := rq_; clear rq_
    have ru_ := ru.keepBlock z15 (fun k h1 h2 => hK k (by omega) (by have := ru.2.1; omega))
    clear ru; have ru := ru_; clear ru_
    have rv_ := rv.keepBlock z15 (fun k h1 h2 => hK k (by omega) (by have := rv.2.1; omega))
    clear rv; have rv := rv_; clear rv_
    have rc_ := rc.keepBlock z15 (fun k h1 h2 => hK k (by omega) (by have := rc.2.1; omega))
    clear rc; have rc := rc_; clear rc_
    have xk_ : Box w15 (w1.heap.size) #[.int .i64 (p : Int), .slice kA kn kc] 33 := (by rw [← hw15]; exact ((xk.far (by omega)).far (by omega)))
    clear xk; have xk := xk_; clear xk_
    have xu_ : Box w15 (w4.heap.size) #[.slice uA0 un0 uc0, .slice uA1 un1 uc1, .slice uA2 un2 uc2, .slice uA3 un3 uc3, .slice (some ⟨gc, 0, none⟩) cn cc, .slice uA5 un5 uc5] 68 := (by rw [← hw15]; exact ((xu.far (by omega)).far (by omega)))
    clear xu; have xu := xu_; clear xu_
    have xv_ : Box w15 (w5.heap.size) #[.slice vA0 vn0 vc0, .slice vA1 vn1 vc1, .slice vA2 vn2 vc2, .slice vA3 vn3 vc3, .slice vA4 vn4 vc4, .slice vA5 vn5 vc5] 68 := (by rw [← hw15]; exact ((xv.far (by omega)).far (by omega)))
    clear xv; have xv := xv_; clear xv_
    have xo_ : Box w15 (gxo) #[.int .i64 (soD (p : Int) al uAS uAM uBS uBM vAS vAM vBS vBM (nth l 1 % (p : Int))), .int .i64 (soE (p : Int) al uAS uAM uBS uBM vAS vAM vBS vBM (nth l 1 % (p : Int)))] 73 := (by rw [← hw15]; exact ((xo.setAt (i := 0) (v := .int .i64 (soD (p : Int) al uAS uAM uBS uBM vAS vAM vBS vBM (nth l 1 % (p : Int)))) (ds := #[.int .i64 (soD (p : Int) al uAS uAM uBS uBM vAS vAM vBS vBM (nth l 1 % (p : Int))), .int .i64 0]) (by simp)).setAt (i := 1) (v := .int .i64 (soE (p : Int) al uAS uAM uBS uBM vAS vAM vBS vBM (nth l 1 % (p : Int)))) (ds := #[.int .i64 (soD (p : Int) al uAS uAM uBS uBM vAS vAM vBS vBM (nth l 1 % (p : Int))), .int .i64 (soE (p : Int) al uAS uAM uBS uBM vAS vAM vBS vBM (nth l 1 % (p : Int)))]) (by simp)))
    clear xo; have xo := xo_; clear xo_
    clear hw15 hK
    clear hll e1
    obtain ⟨cxk_0, cxk_1, fxk_0, fxk_1⟩ := xk.two
    have l_xk_0 : w1.heap.size < w15.heap.size := by omega
    obtain ⟨cxu_0, cxu_1, cxu_2, cxu_3, cxu_4, cxu_5, fxu_0, fxu_1, fxu_2, fxu_3, fxu_4, fxu_5⟩ := xu.six
    have l_xu_0 : w4.heap.size < w15.heap.size := by omega
    obtain ⟨cxv_0, cxv_1, cxv_2, cxv_3, cxv_4, cxv_5, fxv_0, fxv_1, fxv_2, fxv_3, fxv_4, fxv_5⟩ := xv.six
    have l_xv_0 : w5.heap.size < w15.heap.size := by omega
    go_wp2_with fail
    refine (iSacrificeOk_L (p : Int) (rk).rd hal (RdL.fifth (ru).rd (rc).rd) uASn uAMn uBSn uBMn hCn uCMn (rv).rd vASn vAMn vBSn vBMn vCSn vCMn 0).mono ?_
    rintro e w16 ⟨rfl, b16⟩
    clear cxk_0 cxk_1 fxk_0 fxk_1 l_xk_0 cxu_0 cxu_1 cxu_2 cxu_3 cxu_4 cxu_5 fxu_0 fxu_1 fxu_2 fxu_3 fxu_4 fxu_5 l_xu_0 cxv_0 cxv_1 cxv_2 cxv_3 cxv_4 cxv_5 fxv_0 fxv_1 fxv_2 fxv_3 fxv_4 fxv_5 l_xv_0
    have z16 := b16.size
    try simp only [World.size_alloc, World.size_setCell, size_drew] at z16
    have B16 : Below w.heap.size w w16 := Below.t b16
    have rk_ := rk.below b16
    clear rk; have rk := rk_; clear rk_
    have rq_ := rq.below b16
    clear rq; have rq := rq_; clear rq_
    have ru_ := ru.below b16
    clear ru; have ru := ru_; clear ru_
    have rv_ := rv.below b16
    clear rv; have rv := rv_; clear rv_
    have rc_ := rc.below b16
    clear rc; have rc := rc_; clear rc_
    have xk_ : Box w16 (w1.heap.size) #[.int .i64 (p : Int), .slice kA kn kc] 33 := xk.below b16 (by first | omega | (simp [size_drew]; done) | (simp [size_drew]; omega))
    clear xk; have xk := xk_; clear xk_
    have xu_ : Box w16 (w4.heap.size) #[.slice uA0 un0 uc0, .slice uA1 un1 uc1, .slice uA2 un2 uc2, .slice uA3 un3 uc3, .slice (some ⟨gc, 0, none⟩) cn cc, .slice uA5 un5 uc5] 68 := xu.below b16 (by first | omega | (simp [size_drew]; done) | (simp [size_drew]; omega))
    clear xu; have xu := xu_; clear xu_
    have xv_ : Box w16 (w5.heap.size) #[.slice vA0 vn0 vc0, .slice vA1 vn1 vc1, .slice vA2 vn2 vc2, .slice vA3 vn3 vc3, .slice vA4 vn4 vc4, .slice vA5 vn5 vc5] 68 := xv.below b16 (by first | omega | (simp [size_drew]; done) | (simp [size_drew]; omega))
    clear xv; have xv := xv_; clear xv_
    have xo_ : Box w16 (gxo) #[.int .i64 (soD (p : Int) al uAS uAM uBS uBM vAS vAM vBS vBM (nth l 1 % (p : Int))), .int .i64 (soE (p : Int) al uAS uAM uBS uBM vAS vAM vBS vBM (nth l 1 % (p : Int)))] 73 := xo.below b16 (by first | omega | (simp [size_drew]; done) | (simp [size_drew]; omega))
    clear xo; have xo := xo_; clear xo_
    rw [hsk.out]
    go_wp2
    go_ret
    exact ⟨rfl, by repeat (with_reducible (first | assumption | exact Below.refl _ _ | refine Below.alloc ?_ (by first | omega | (simp; done) | (simp; omega)) _ | refine Below.setCell ?_ (by first | omega | (simp; done) | (simp; omega)) _ | refine Below.drew ?_ | refine below_drewN ?_ _))⟩
end Go.Proofs.Ytllnnbmgdbinnaa

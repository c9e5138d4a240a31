/- The walk of the law FnMultiplied. Printed by laws3.py. -/
import Derived.Test.YtllnnbmgdbinnaaDrawK
import Derived.Test.YtllnnbmgdbinnaaTriN
import Derived.Test.YtllnnbmgdbinnaaTri
import Derived.Test.YtllnnbmgdbinnaaUse
import Derived.Test.YtllnnbmgdbinnaaTriLaw
import Derived.Test.YtllnnbmgdbinnaaSameB
import Derived.Test.YtllnnbmgdbinnaaOpenS
namespace Go.Proofs.Ytllnnbmgdbinnaa
set_option linter.unusedSimpArgs false
set_option linter.unusedVariables false
open Go.RowKit
set_option maxRecDepth 100000 in
set_option maxHeartbeats 10000000 in
theorem walk_FnMultiplied (A : Option Addr) (n c : Nat) (w : World) (hx : Bts0 w A n) :
    Calls Try.prog 25 #[.slice A n c] w fun e w' => e = .returned (.bool true) ∧ Below w.heap.size w w' := by
  by_cases hn : (1048576 : Int) < n
  · go_enter Try.func25, Try.ntmps25
    go_wp2_with fail
    refine (big_any _ _ _ _).mono ?_
    rintro e w1 ⟨rfl, rfl⟩
    go_wp2
    go_ret
    exact ⟨rfl, Below.refl _ _⟩
  · have hB0 : Bts w A n := ⟨by omega, hx.2⟩
    go_enter Try.func25, Try.ntmps25
    go_wp2_with fail
    refine (big_any _ _ _ _).mono ?_
    rintro e w_ ⟨rfl, rfl⟩
    go_wp2_with fail
    refine (DrawKeys_any n c A _ hB0).mono ?_
    rintro e w1 ⟨p, al, kA, kn, kc, hk, rfl, rk, b1⟩
    have B1 := b1
    have z1 := b1.size
    have HK := Lib.hid hk
    have HF := Lib.hid (keys_fOk hk)
    have HL := Lib.hid (keysOk_iff.1 hk)
    obtain ⟨hp1, hp2⟩ := fOk_bd HF.out
    have hal : al.length ≤ 1048576 := by have := HL.out; omega
    have hp0 : ¬ p = 0 := by omega
    clear b1 hk
    go_wp2_with fail
    refine (DrawTape_any n c A _ (hB0.keep fun _ a _ ha => (show Below w.heap.size w _ from by repeat (with_reducible (first | assumption | exact Below.refl _ _ | refine Below.alloc ?_ (by first | omega | (simp; done) | (simp; omega)) _ | refine Below.setCell ?_ (by first | omega | (simp; done) | (simp; omega)) _ | refine Below.drew ?_ | refine below_drewN ?_ _))).block _ ha)).mono ?_
    rintro e w2 ⟨ts, ta, hts, hta, rfl, b2⟩
    have z2 := b2.size
    try simp only [World.size_alloc, World.size_setCell, size_drew] at z2
    have B2 : Below w.heap.size w w2 := Below.t b2
    have rk_ := (rk.alloc _).below b2
    clear rk; have rk := rk_; clear rk_
    have xk_ : Box w2 (w1.heap.size) #[.int .i64 (p : Int), .slice kA kn kc] 33 := (Box.new (g := w1.heap.size) _ #[.int .i64 (p : Int), .slice kA kn kc] 33 (by simp)).below b2 (by first | omega | (simp [size_drew]; done) | (simp [size_drew]; omega))
    have xk := xk_; clear xk_
    go_wp2_with fail
    refine (DrawPlaces_any n c A _ (hB0.keep fun _ a _ ha => (show Below w.heap.size w _ from by repeat (with_reducible (first | assumption | exact Below.refl _ _ | refine Below.alloc ?_ (by first | omega | (simp; done) | (simp; omega)) _ | refine Below.setCell ?_ (by first | omega | (simp; done) | (simp; omega)) _ | refine Below.drew ?_ | refine below_drewN ?_ _))).block _ ha)).mono ?_
    rintro e w3 ⟨v, l, rfl, hl, ha, ho, b3⟩
    have z3 := b3.size
    try simp only [World.size_alloc, World.size_setCell, size_drew] at z3
    have B3 : Below w.heap.size w w3 := Below.t b3
    have rk_ := (rk.alloc _).below b3
    clear rk; have rk := rk_; clear rk_
    have xk_ : Box w3 (w1.heap.size) #[.int .i64 (p : Int), .slice kA kn kc] 33 := (xk.alloc _).below b3 (by first | omega | (simp [size_drew]; done) | (simp [size_drew]; omega))
    clear xk; have xk := xk_; clear xk_
    have xt_ : Box w3 (w2.heap.size) #[.int .i64 (ts : Int), .int .i64 (ta : Int)] 40 := (Box.new (g := w2.heap.size) _ #[.int .i64 (ts : Int), .int .i64 (ta : Int)] 40 (by simp)).below b3 (by first | omega | (simp [size_drew]; done) | (simp [size_drew]; omega))
    have xt := xt_; clear xt_
    obtain ⟨Bp, dp, rfl, hI⟩ := ho.reads
    rw [hl] at hI ho ⊢
    obtain ⟨gp, op, rfl, hgp, _⟩ := hI.block (by omega)
    have rq : OwnL w3 (w2.heap.size + 1) w3.heap.size [(.slice (some ⟨gp, op, none⟩) 12 dp, .ints l)] := OwnL.one (d := .ints l) (show OwnD _ _ _ (.ints l) by unfold OwnD; (first | exact ho | (simp only [World.size_alloc] at ho; exact ho))) (by omega)
    clear hI ho
    have HA := Lib.hid ha
    have Hl := Lib.hid hl
    clear ha hl
    obtain ⟨q0l, q0h⟩ := HA.out (nth l 0) (by rw [nth_lt (by rw [Hl.out]; omega)]; exact List.getElem_mem _)
    have ht0 : (nth l 0).tmod (p : Int) = nth l 0 % (p : Int) := Int.tmod_eq_emod_of_nonneg q0l
    obtain ⟨cxk_0, cxk_1, fxk_0, fxk_1⟩ := xk.two
    have l_xk_0 : w1.heap.size < w3.heap.size := by omega
    go_wp2_with fail
    clear cxk_0 cxk_1 fxk_0 fxk_1 l_xk_0
    refine wp_region_held_drew (S := fun W => W.cell? ⟨w1.heap.size, 0, none⟩ = some (.int .i64 (p : Int)) ∧ W.cell? ⟨w1.heap.size, 1, none⟩ = some (.slice kA kn kc) ∧ W.cell? ⟨gp, op, none⟩ = some (.int .i64 (nth l 0))) (by kernel_rfl) ⟨xk.drew.two.1, xk.drew.two.2.1, (ownCell (l := l) (rq.drew) (List.mem_cons_self) 0 (by rw [Hl.out]; omega))⟩ (fun hS => ?_)
    (refine tk 0 hS ?_; (try simp only [Act.put, layA, layB, layC]))
    (refine tk 1 hS ?_; (try simp only [Act.put, layA, layB, layC]))
    (refine tk 2 hS ?_; (try simp only [Act.put, layA, layB, layC]))
    (refine tk 3 hS ?_; (try simp only [Act.put, layA, layB, layC]))
    (refine tk 4 hS ?_; (try simp only [Act.put, layA, layB, layC]))
    (refine tk 5 hS ?_; (try simp only [Act.put, layA, layB, layC]))
    (refine tk 6 hS ?_; (try simp only [Act.put, layA, layB, layC]))
    clear hS
    refine wpAnyH_done (by kernel_rfl) ?_ _
    generalize hw4 : World.drew _ = w4
    have z4 : w3.heap.size ≤ w4.heap.size := by rw [← hw4]; simp [size_drew]
    have B4 : Below w.heap.size w w4 := by rw [← hw4]; repeat (with_reducible (first | assumption | exact Below.refl _ _ | refine Below.alloc ?_ (by first | omega | (simp; done) | (simp; omega)) _ | refine Below.setCell ?_ (by first | omega | (simp; done) | (simp; omega)) _ | refine Below.drew ?_ | refine below_drewN ?_ _))
    have hK : ∀ k, k < w3.heap.size → w4.heap[k]? = w3.heap[k]? := by
      intro k hk; rw [← hw4]
      repeat (first | rfl | refine (Below.heap_alloc _ _ _ (by first | omega | (simp; omega))).trans ?_)
    have rk_ := rk.keepBlock (w' := w4) (by omega) (fun k h1 h2 => hK k  (by have := rk.2.1; omega))
    clear rk; have rk := rk_; clear rk_
    have rq_ := rq.keepBlock (w' := w4) (by omega) (fun k h1 h2 => hK k  (by have := rq.2.1; omega))
    clear rq; have rq := rq_; clear rq_
    have xk_ : Box w4 (w1.heap.size) #[.int .i64 (p : Int), .slice kA kn kc] 33 := (by rw [← hw4]; exact xk)
    clear xk; have xk := xk_; clear xk_
    have xt_ : Box w4 (w2.heap.size) #[.int .i64 (ts : Int), .int .i64 (ta : Int)] 40 := (by rw [← hw4]; exact xt)
    clear xt; have xt := xt_; clear xt_
    clear hw4 hK
    have ex : Hid (elem (p : Int) (nth l 0 % (p : Int)) = true) := elem_mod HF.out _
    clear ht0 q0l q0h
    generalize nth l 0 % (p : Int) = x at *
    obtain ⟨q1l, q1h⟩ := HA.out (nth l 1) (by rw [nth_lt (by rw [Hl.out]; omega)]; exact List.getElem_mem _)
    have ht1 : (nth l 1).tmod (p : Int) = nth l 1 % (p : Int) := Int.tmod_eq_emod_of_nonneg q1l
    obtain ⟨cxk_0, cxk_1, fxk_0, fxk_1⟩ := xk.two
    have l_xk_0 : w1.heap.size < w4.heap.size := by omega
    go_wp2_with fail
    clear cxk_0 cxk_1 fxk_0 fxk_1 l_xk_0
    refine wp_region_held_drew (S := fun W => W.cell? ⟨w1.heap.size, 0, none⟩ = some (.int .i64 (p : Int)) ∧ W.cell? ⟨w1.heap.size, 1, none⟩ = some (.slice kA kn kc) ∧ W.cell? ⟨gp, op + 1, none⟩ = some (.int .i64 (nth l 1))) (by kernel_rfl) ⟨xk.drew.two.1, xk.drew.two.2.1, (ownCell (l := l) (rq.drew) (List.mem_cons_self) 1 (by rw [Hl.out]; omega))⟩ (fun hS => ?_)
    (refine tk 0 hS ?_; (try simp only [Act.put, layA, layB, layC]))
    (refine tk 1 hS ?_; (try simp only [Act.put, layA, layB, layC]))
    (refine tk 2 hS ?_; (try simp only [Act.put, layA, layB, layC]))
    (refine tk 3 hS ?_; (try simp only [Act.put, layA, layB, layC]))
    (refine tk 4 hS ?_; (try simp only [Act.put, layA, layB, layC]))
    (refine tk 5 hS ?_; (try simp only [Act.put, layA, layB, layC]))
    (refine tk 6 hS ?_; (try simp only [Act.put, layA, layB, layC]))
    clear hS
    refine wpAnyH_done (by kernel_rfl) ?_ _
    generalize hw5 : World.drew _ = w5
    have z5 : w4.heap.size ≤ w5.heap.size := by rw [← hw5]; simp [size_drew]
    have B5 : Below w.heap.size w w5 := by rw [← hw5]; repeat (with_reducible (first | assumption | exact Below.refl _ _ | refine Below.alloc ?_ (by first | omega | (simp; done) | (simp; omega)) _ | refine Below.setCell ?_ (by first | omega | (simp; done) | (simp; omega)) _ | refine Below.drew ?_ | refine below_drewN ?_ _))
    have hK : ∀ k, k < w4.heap.size → w5.heap[k]? = w4.heap[k]? := by
      intro k hk; rw [← hw5]
      repeat (first | rfl | refine (Below.heap_alloc _ _ _ (by first | omega | (simp; omega))).trans ?_)
    have rk_ := rk.keepBlock (w' := w5) (by omega) (fun k h1 h2 => hK k  (by have := rk.2.1; omega))
    clear rk; have rk := rk_; clear rk_
    have rq_ := rq.keepBlock (w' := w5) (by omega) (fun k h1 h2 => hK k  (by have := rq.2.1; omega))
    clear rq; have rq := rq_; clear rq_
    have xk_ : Box w5 (w1.heap.size) #[.int .i64 (p : Int), .slice kA kn kc] 33 := (by rw [← hw5]; exact xk)
    clear xk; have xk := xk_; clear xk_
    have xt_ : Box w5 (w2.heap.size) #[.int .i64 (ts : Int), .int .i64 (ta : Int)] 40 := (by rw [← hw5]; exact xt)
    clear xt; have xt := xt_; clear xt_
    clear hw5 hK
    have ey : Hid (elem (p : Int) (nth l 1 % (p : Int)) = true) := elem_mod HF.out _
    clear ht1 q1l q1h
    generalize nth l 1 % (p : Int) = y at *
    obtain ⟨cxk_0, cxk_1, fxk_0, fxk_1⟩ := xk.two
    have l_xk_0 : w1.heap.size < w5.heap.size := by omega
    obtain ⟨cxt_0, cxt_1, fxt_0, fxt_1⟩ := xt.two
    have l_xt_0 : w2.heap.size < w5.heap.size := by omega
    go_wp2_with fail
    refine (sAuthNew_L (p : Int) (rk).rd hal x (ts : Int) (ta : Int)).mono ?_
    rintro e w6 ⟨aA0, an0, ac0, aA1, an1, ac1, rfl, ra, b6⟩
    clear cxk_0 cxk_1 fxk_0 fxk_1 l_xk_0 cxt_0 cxt_1 fxt_0 fxt_1 l_xt_0
    have z6 := b6.size
    try simp only [World.size_alloc, World.size_setCell, size_drew] at z6
    have B6 : Below w.heap.size w w6 := Below.t b6
    have rk_ := rk.below b6
    clear rk; have rk := rk_; clear rk_
    have rq_ := rq.below b6
    clear rq; have rq := rq_; clear rq_
    have xk_ : Box w6 (w1.heap.size) #[.int .i64 (p : Int), .slice kA kn kc] 33 := xk.below b6 (by first | omega | (simp [size_drew]; done) | (simp [size_drew]; omega))
    clear xk; have xk := xk_; clear xk_
    have xt_ : Box w6 (w2.heap.size) #[.int .i64 (ts : Int), .int .i64 (ta : Int)] 40 := xt.below b6 (by first | omega | (simp [size_drew]; done) | (simp [size_drew]; omega))
    clear xt; have xt := xt_; clear xt_
    try simp only [World.size_alloc, World.size_setCell, size_drew] at ra
    have Va := Lib.hid (isV_n (s := (ts : Int)) (a := (ta : Int)) HK.out x ex.out (by omega) (by omega))
    have bt2 := (n_new (s := (ts : Int)) (a := (ta : Int)) HK.out x ex.out (by omega) (by omega)).2
    generalize nS (p : Int) al x (ts : Int) (ta : Int) = aS at *
    generalize nM (p : Int) al x (ts : Int) (ta : Int) = aM at *
    generalize nT (p : Int) al x (ts : Int) (ta : Int) = t2 at *
    have aSn : aS.length ≤ 1048576 := by have := Va.out.len; have := HL.out; omega
    have aMn : aM.length ≤ 1048576 := by have := Va.out.len; have := HL.out; omega
    obtain ⟨cxk_0, cxk_1, fxk_0, fxk_1⟩ := xk.two
    have l_xk_0 : w1.heap.size < w6.heap.size := by omega
    have l_xk_1 : w1.heap.size < w6.heap.size + 1 := by omega
    have l_xk_2 : w1.heap.size < w6.heap.size + 1 + 1 := by omega
    go_wp2_with fail
    refine (sAuthNew_L (p : Int) (((rk.alloc _).alloc _)).rd hal y (ts : Int) t2).mono ?_
    rintro e w7 ⟨bA0, bn0, bc0, bA1, bn1, bc1, rfl, rb, b7⟩
    clear cxk_0 cxk_1 fxk_0 fxk_1 l_xk_0 l_xk_1 l_xk_2
    have z7 := b7.size
    try simp only [World.size_alloc, World.size_setCell, size_drew] at z7
    have B7 : Below w.heap.size w w7 := Below.t b7
    have rk_ := ((rk.alloc _).alloc _).below b7
    clear rk; have rk := rk_; clear rk_
    have rq_ := ((rq.alloc _).alloc _).below b7
    clear rq; have rq := rq_; clear rq_
    have ra_ := ((ra.alloc _).alloc _).below b7
    clear ra; have ra := ra_; clear ra_
    have xk_ : Box w7 (w1.heap.size) #[.int .i64 (p : Int), .slice kA kn kc] 33 := ((xk.alloc _).alloc _).below b7 (by first | omega | (simp [size_drew]; done) | (simp [size_drew]; omega))
    clear xk; have xk := xk_; clear xk_
    have xt_ : Box w7 (w2.heap.size) #[.int .i64 (ts : Int), .int .i64 (ta : Int)] 40 := ((xt.alloc _).alloc _).below b7 (by first | omega | (simp [size_drew]; done) | (simp [size_drew]; omega))
    clear xt; have xt := xt_; clear xt_
    have xa_ : Box w7 (w6.heap.size) #[.slice aA0 an0 ac0, .slice aA1 an1 ac1] 38 := ((Box.new (g := w6.heap.size) _ #[.slice aA0 an0 ac0, .slice aA1 an1 ac1] 38 (by simp)).alloc _).below b7 (by first | omega | (simp [size_drew]; done) | (simp [size_drew]; omega))
    have xa := xa_; clear xa_
    have xt2_ : Box w7 (w6.heap.size + 1) #[.int .i64 (ts : Int), .int .i64 t2] 40 := (Box.new (g := w6.heap.size + 1) _ #[.int .i64 (ts : Int), .int .i64 t2] 40 (by simp)).below b7 (by first | omega | (simp [size_drew]; done) | (simp [size_drew]; omega))
    have xt2 := xt2_; clear xt2_
    try simp only [World.size_alloc, World.size_setCell, size_drew] at rb
    have Vb := Lib.hid (isV_n (s := (ts : Int)) (a := t2) HK.out y ey.out (by omega) (by omega))
    have bt3 := (n_new (s := (ts : Int)) (a := t2) HK.out y ey.out (by omega) (by omega)).2
    generalize nS (p : Int) al y (ts : Int) t2 = bS at *
    generalize nM (p : Int) al y (ts : Int) t2 = bM at *
    generalize nT (p : Int) al y (ts : Int) t2 = t3 at *
    have bSn : bS.length ≤ 1048576 := by have := Vb.out.len; have := HL.out; omega
    have bMn : bM.length ≤ 1048576 := by have := Vb.out.len; have := HL.out; omega
    obtain ⟨cxk_0, cxk_1, fxk_0, fxk_1⟩ := xk.two
    have l_xk_0 : w1.heap.size < w7.heap.size := by omega
    have l_xk_1 : w1.heap.size < w7.heap.size + 1 := by omega
    have l_xk_2 : w1.heap.size < w7.heap.size + 1 + 1 := by omega
    go_wp2_with fail
    refine (iTripleNew_L (p : Int) (((rk.alloc _).alloc _)).rd hal (ts : Int) t3).mono ?_
    rintro e w8 ⟨rA0, rn0, rc0, rA1, rn1, rc1, rA2, rn2, rc2, rA3, rn3, rc3, rA4, rn4, rc4, rA5, rn5, rc5, rfl, rr, b8⟩
    clear cxk_0 cxk_1 fxk_0 fxk_1 l_xk_0 l_xk_1 l_xk_2
    have z8 := b8.size
    try simp only [World.size_alloc, World.size_setCell, size_drew] at z8
    have B8 : Below w.heap.size w w8 := Below.t b8
    have rk_ := ((rk.alloc _).alloc _).below b8
    clear rk; have rk := rk_; clear rk_
    have rq_ := ((rq.alloc _).alloc _).below b8
    clear rq; have rq := rq_; clear rq_
    have ra_ := ((ra.alloc _).alloc _).below b8
    clear ra; have ra := ra_; clear ra_
    have rb_ := ((rb.alloc _).alloc _).below b8
    clear rb; have rb := rb_; clear rb_
    have xk_ : Box w8 (w1.heap.size) #[.int .i64 (p : Int), .slice kA kn kc] 33 := ((xk.alloc _).alloc _).below b8 (by first | omega | (simp [size_drew]; done) | (simp [size_drew]; omega))
    clear xk; have xk := xk_; clear xk_
    have xt_ : Box w8 (w2.heap.size) #[.int .i64 (ts : Int), .int .i64 (ta : Int)] 40 := ((xt.alloc _).alloc _).below b8 (by first | omega | (simp [size_drew]; done) | (simp [size_drew]; omega))
    clear xt; have xt := xt_; clear xt_
    have xa_ : Box w8 (w6.heap.size) #[.slice aA0 an0 ac0, .slice aA1 an1 ac1] 38 := ((xa.alloc _).alloc _).below b8 (by first | omega | (simp [size_drew]; done) | (simp [size_drew]; omega))
    clear xa; have xa := xa_; clear xa_
    have xt2_ : Box w8 (w6.heap.size + 1) #[.int .i64 (ts : Int), .int .i64 t2] 40 := ((xt2.alloc _).alloc _).below b8 (by first | omega | (simp [size_drew]; done) | (simp [size_drew]; omega))
    clear xt2; have xt2 := xt2_; clear xt2_
    have xb_ : Box w8 (w7.heap.size) #[.slice bA0 bn0 bc0, .slice bA1 bn1 bc1] 38 := ((Box.new (g := w7.heap.size) _ #[.slice bA0 bn0 bc0, .slice bA1 bn1 bc1] 38 (by simp)).alloc _).below b8 (by first | omega | (simp [size_drew]; done) | (simp [size_drew]; omega))
    have xb := xb_; clear xb_
    have xt3_ : Box w8 (w7.heap.size + 1) #[.int .i64 (ts : Int), .int .i64 t3] 40 := (Box.new (g := w7.heap.size + 1) _ #[.int .i64 (ts : Int), .int .i64 t3] 40 (by simp)).below b8 (by first | omega | (simp [size_drew]; done) | (simp [size_drew]; omega))
    have xt3 := xt3_; clear xt3_
    try simp only [World.size_alloc, World.size_setCell, size_drew] at rr
    obtain ⟨_, h1, h2, h3, bt4⟩ := isV_triple (s := (ts : Int)) (a := t3) HK.out (by omega) (by omega)
    have VrA := Lib.hid h1
    have VrB := Lib.hid h2
    have VrC := Lib.hid h3
    clear h1 h2 h3
    generalize mAS (p : Int) al (ts : Int) t3 = rAS at *
    generalize mAM (p : Int) al (ts : Int) t3 = rAM at *
    generalize mBS (p : Int) al (ts : Int) t3 = rBS at *
    generalize mBM (p : Int) al (ts : Int) t3 = rBM at *
    generalize mCS (p : Int) al (ts : Int) t3 = rCS at *
    generalize mCM (p : Int) al (ts : Int) t3 = rCM at *
    generalize mT (p : Int) al (ts : Int) t3 = t4 at *
    generalize mX (p : Int) (ts : Int) t3 = rx at *
    generalize mY (p : Int) (ts : Int) t3 = ry at *
    have rASn : rAS.length ≤ 1048576 := by have := VrA.out.len; have := HL.out; omega
    have rAMn : rAM.length ≤ 1048576 := by have := VrA.out.len; have := HL.out; omega
    have rBSn : rBS.length ≤ 1048576 := by have := VrB.out.len; have := HL.out; omega
    have rBMn : rBM.length ≤ 1048576 := by have := VrB.out.len; have := HL.out; omega
    have rCSn : rCS.length ≤ 1048576 := by have := VrC.out.len; have := HL.out; omega
    have rCMn : rCM.length ≤ 1048576 := by have := VrC.out.len; have := HL.out; omega
    have hf4 := Lib.hid (form4_yes Va.out Vb.out VrA.out VrB.out)
    obtain ⟨cxk_0, cxk_1, fxk_0, fxk_1⟩ := xk.two
    have l_xk_0 : w1.heap.size < w8.heap.size := by omega
    have l_xk_1 : w1.heap.size < w8.heap.size + 1 := by omega
    have l_xk_2 : w1.heap.size < w8.heap.size + 1 + 1 := by omega
    obtain ⟨cxa_0, cxa_1, fxa_0, fxa_1⟩ := xa.two
    have l_xa_0 : w6.heap.size < w8.heap.size := by omega
    have l_xa_1 : w6.heap.size < w8.heap.size + 1 := by omega
    have l_xa_2 : w6.heap.size < w8.heap.size + 1 + 1 := by omega
    obtain ⟨cxb_0, cxb_1, fxb_0, fxb_1⟩ := xb.two
    have l_xb_0 : w7.heap.size < w8.heap.size := by omega
    have l_xb_1 : w7.heap.size < w8.heap.size + 1 := by omega
    have l_xb_2 : w7.heap.size < w8.heap.size + 1 + 1 := by omega
    go_wp2_with fail
    refine (iTripleOpen_L (p : Int) (((rk.alloc _).alloc _)).rd hal (((ra.alloc _).alloc _)).rd aSn aMn (((rb.alloc _).alloc _)).rd bSn bMn (((rr.alloc _).alloc _)).rd rASn rAMn rBSn rBMn rCSn rCMn).mono ?_
    rintro e w9 ⟨rfl, b9⟩
    clear cxk_0 cxk_1 fxk_0 fxk_1 l_xk_0 l_xk_1 l_xk_2 cxa_0 cxa_1 fxa_0 fxa_1 l_xa_0 l_xa_1 l_xa_2 cxb_0 cxb_1 fxb_0 fxb_1 l_xb_0 l_xb_1 l_xb_2
    have z9 := b9.size
    try simp only [World.size_alloc, World.size_setCell, size_drew] at z9
    have B9 : Below w.heap.size w w9 := Below.t b9
    have rk_ := ((rk.alloc _).alloc _).below b9
    clear rk; have rk := rk_; clear rk_
    have rq_ := ((rq.alloc _).alloc _).below b9
    clear rq; have rq := rq_; clear rq_
    have ra_ := ((ra.alloc _).alloc _).below b9
    clear ra; have ra := ra_; clear ra_
    have rb_ := ((rb.alloc _).alloc _).below b9
    clear rb; have rb := rb_; clear rb_
    have rr_ := ((rr.alloc _).alloc _).below b9
    clear rr; have rr := rr_; clear rr_
    have xk_ : Box w9 (w1.heap.size) #[.int .i64 (p : Int), .slice kA kn kc] 33 := ((xk.alloc _).alloc _).below b9 (by first | omega | (simp [size_drew]; done) | (simp [size_drew]; omega))
    clear xk; have xk := xk_; clear xk_
    have xt_ : Box w9 (w2.heap.size) #[.int .i64 (ts : Int), .int .i64 (ta : Int)] 40 := ((xt.alloc _).alloc _).below b9 (by first | omega | (simp [size_drew]; done) | (simp [size_drew]; omega))
    clear xt; have xt := xt_; clear xt_
    have xa_ : Box w9 (w6.heap.size) #[.slice aA0 an0 ac0, .slice aA1 an1 ac1] 38 := ((xa.alloc _).alloc _).below b9 (by first | omega | (simp [size_drew]; done) | (simp [size_drew]; omega))
    clear xa; have xa := xa_; clear xa_
    have xt2_ : Box w9 (w6.heap.size + 1) #[.int .i64 (ts : Int), .int .i64 t2] 40 := ((xt2.alloc _).alloc _).below b9 (by first | omega | (simp [size_drew]; done) | (simp [size_drew]; omega))
    clear xt2; have xt2 := xt2_; clear xt2_
    have xb_ : Box w9 (w7.heap.size) #[.slice bA0 bn0 bc0, .slice bA1 bn1 bc1] 38 := ((xb.alloc _).alloc _).below b9 (by first | omega | (simp [size_drew]; done) | (simp [size_drew]; omega))
    clear xb; have xb := xb_; clear xb_
    have xt3_ : Box w9 (w7.heap.size + 1) #[.int .i64 (ts : Int), .int .i64 t3] 40 := ((xt3.alloc _).alloc _).below b9 (by first | omega | (simp [size_drew]; done) | (simp [size_drew]; omega))
    clear xt3; have xt3 := xt3_; clear xt3_
    have xr_ : Box w9 (w8.heap.size) #[.slice rA0 rn0 rc0, .slice rA1 rn1 rc1, .slice rA2 rn2 rc2, .slice rA3 rn3 rc3, .slice rA4 rn4 rc4, .slice rA5 rn5 rc5] 68 := ((Box.new (g := w8.heap.size) _ #[.slice rA0 rn0 rc0, .slice rA1 rn1 rc1, .slice rA2 rn2 rc2, .slice rA3 rn3 rc3, .slice rA4 rn4 rc4, .slice rA5 rn5 rc5] 68 (by simp)).alloc _).below b9 (by first | omega | (simp [size_drew]; done) | (simp [size_drew]; omega))
    have xr := xr_; clear xr_
    have xt4_ : Box w9 (w8.heap.size + 1) #[.int .i64 (ts : Int), .int .i64 t4] 40 := (Box.new (g := w8.heap.size + 1) _ #[.int .i64 (ts : Int), .int .i64 t4] 40 (by simp)).below b9 (by first | omega | (simp [size_drew]; done) | (simp [size_drew]; omega))
    have xt4 := xt4_; clear xt4_
    rw [hf4.out]
    have Vz := Lib.hid (useV Va.out Vb.out VrA.out VrB.out VrC.out)
    generalize toD (p : Int) al aS aM bS bM rAS rAM rBS rBM = oD at *
    generalize toE (p : Int) al aS aM bS bM rAS rAM rBS rBM = oE at *
    obtain ⟨cxk_0, cxk_1, fxk_0, fxk_1⟩ := xk.two
    have l_xk_0 : w1.heap.size < w9.heap.size := by omega
    have l_xk_1 : w1.heap.size < w9.heap.size + 1 := by omega
    obtain ⟨cxr_0, cxr_1, cxr_2, cxr_3, cxr_4, cxr_5, fxr_0, fxr_1, fxr_2, fxr_3, fxr_4, fxr_5⟩ := xr.six
    have l_xr_0 : w8.heap.size < w9.heap.size := by omega
    have l_xr_1 : w8.heap.size < w9.heap.size + 1 := by omega
    go_wp2_with fail
    refine (iTripleUse_L (p : Int) ((rk.alloc _)).rd hal ((rr.alloc _)).rd rASn rAMn rBSn rBMn rCSn rCMn oD oE).mono ?_
    rintro e w10 ⟨zA0, zn0, zc0, zA1, zn1, zc1, rfl, rz, b10⟩
    clear cxk_0 cxk_1 fxk_0 fxk_1 l_xk_0 l_xk_1 cxr_0 cxr_1 cxr_2 cxr_3 cxr_4 cxr_5 fxr_0 fxr_1 fxr_2 fxr_3 fxr_4 fxr_5 l_xr_0 l_xr_1
    have z10 := b10.size
    try simp only [World.size_alloc, World.size_setCell, size_drew] at z10
    have B10 : Below w.heap.size w w10 := Below.t b10
    have rk_ := (rk.alloc _).below b10
    clear rk; have rk := rk_; clear rk_
    have rq_ := (rq.alloc _).below b10
    clear rq; have rq := rq_; clear rq_
    have ra_ := (ra.alloc _).below b10
    clear ra; have ra := ra_; clear ra_
    have rb_ := (rb.alloc _).below b10
    clear rb; have rb := rb_; clear rb_
    have rr_ := (rr.alloc _).below b10
    clear rr; have rr := rr_; clear rr_
    have xk_ : Box w10 (w1.heap.size) #[.int .i64 (p : Int), .slice kA kn kc] 33 := (xk.alloc _).below b10 (by first | omega | (simp [size_drew]; done) | (simp [size_drew]; omega))
    clear xk; have xk := xk_; clear xk_
    have xt_ : Box w10 (w2.heap.size) #[.int .i64 (ts : Int), .int .i64 (ta : Int)] 40 := (xt.alloc _).below b10 (by first | omega | (simp [size_drew]; done) | (simp [size_drew]; omega))
    clear xt; have xt := xt_; clear xt_
    have xa_ : Box w10 (w6.heap.size) #[.slice aA0 an0 ac0, .slice aA1 an1 ac1] 38 := (xa.alloc _).below b10 (by first | omega | (simp [size_drew]; done) | (simp [size_drew]; omega))
    clear xa; have xa := xa_; clear xa_
    have xt2_ : Box w10 (w6.heap.size + 1) #[.int .i64 (ts : Int), .int .i64 t2] 40 := (xt2.alloc _).below b10 (by first | omega | (simp [size_drew]; done) | (simp [size_drew]; omega))
    clear xt2; have xt2 := xt2_; clear xt2_
    have xb_ : Box w10 (w7.heap.size) #[.slice bA0 bn0 bc0, .slice bA1 bn1 bc1] 38 := (xb.alloc _).below b10 (by first | omega | (simp [size_drew]; done) | (simp [size_drew]; omega))
    clear xb; have xb := xb_; clear xb_
    have xt3_ : Box w10 (w7.heap.size + 1) #[.int .i64 (ts : Int), .int .i64 t3] 40 := (xt3.alloc _).below b10 (by first | omega | (simp [size_drew]; done) | (simp [size_drew]; omega))
    clear xt3; have xt3 := xt3_; clear xt3_
    have xr_ : Box w10 (w8.heap.size) #[.slice rA0 rn0 rc0, .slice rA1 rn1 rc1, .slice rA2 rn2 rc2, .slice rA3 rn3 rc3, .slice rA4 rn4 rc4, .slice rA5 rn5 rc5] 68 := (xr.alloc _).below b10 (by first | omega | (simp [size_drew]; done) | (simp [size_drew]; omega))
    clear xr; have xr := xr_; clear xr_
    have xt4_ : Box w10 (w8.heap.size + 1) #[.int .i64 (ts : Int), .int .i64 t4] 40 := (xt4.alloc _).below b10 (by first | omega | (simp [size_drew]; done) | (simp [size_drew]; omega))
    clear xt4; have xt4 := xt4_; clear xt4_
    have xo_ : Box w10 (w9.heap.size) #[.int .i64 oD, .int .i64 oE] 73 := (Box.new (g := w9.heap.size) _ #[.int .i64 oD, .int .i64 oE] 73 (by simp)).below b10 (by first | omega | (simp [size_drew]; done) | (simp [size_drew]; omega))
    have xo := xo_; clear xo_
    try simp only [World.size_alloc, World.size_setCell, size_drew] at rz
    generalize uS (p : Int) al rAS rAM rBS rBM rCS rCM oD oE = zS at *
    generalize uM (p : Int) al rAS rAM rBS rBM rCS rCM oD oE = zM at *
    have zSn : zS.length ≤ 1048576 := by have := Vz.out.len; have := HL.out; omega
    have zMn : zM.length ≤ 1048576 := by have := Vz.out.len; have := HL.out; omega
    have htk := Lib.hid (tripleOk_yes VrA.out VrB.out VrC.out)
    have hzk := Lib.hid Vz.out.ok
    have hzv := Lib.hid Vz.out.2.1
    have hz5 := Lib.hid Vz.out.five
    have bxy := elm_bd ex.out ey.out
    have hw1 : IntKind.i64.wrap (x * y) = x * y := by (rw [IntKind.wrap_i64]; (first | omega | (unfold wrap64; omega)))
    have ht1 : (x * y).tmod (p : Int) = x * y % (p : Int) := Int.tmod_eq_emod_of_nonneg bxy.1
    obtain ⟨cxk_0, cxk_1, fxk_0, fxk_1⟩ := xk.two
    have l_xk_0 : w1.heap.size < w10.heap.size := by omega
    have l_xk_1 : w1.heap.size < w10.heap.size + 1 := by omega
    go_wp2_with fail
    clear cxk_0 cxk_1 fxk_0 fxk_1 l_xk_0 l_xk_1
    generalize hw11 : World.alloc _ _ = w11
    have z11 : w10.heap.size + 1 ≤ w11.heap.size := by rw [← hw11]; simp
    have B11 : Below w.heap.size w w11 := by rw [← hw11]; repeat (with_reducible (first | assumption | exact Below.refl _ _ | refine Below.alloc ?_ (by first | omega | (simp; done) | (simp; omega)) _ | refine Below.setCell ?_ (by first | omega | (simp; done) | (simp; omega)) _ | refine Below.drew ?_ | refine below_drewN ?_ _))
    have hK : ∀ k, k < w10.heap.size → w11.heap[k]? = w10.heap[k]? := by
      intro k hk; rw [← hw11]
      repeat (first | rfl | refine (Below.heap_alloc _ _ _ (by first | omega | (simp; omega))).trans ?_)
    have rk_ := rk.keepBlock (w' := w11) (by omega) (fun k h1 h2 => hK k  (by have := rk.2.1; omega))
    clear rk; have rk := rk_; clear rk_
    have rq_ := rq.keepBlock (w' := w11) (by omega) (fun k h1 h2 => hK k  (by have := rq.2.1; omega))
    clear rq; have rq := rq_; clear rq_
    have ra_ := ra.keepBlock (w' := w11) (by omega) (fun k h1 h2 => hK k  (by have := ra.2.1; omega))
    clear ra; have ra := ra_; clear ra_
    have rb_ := rb.keepBlock (w' := w11) (by omega) (fun k h1 h2 => hK k  (by have := rb.2.1; omega))
    clear rb; have rb := rb_; clear rb_
    have rr_ := rr.keepBlock (w' := w11) (by omega) (fun k h1 h2 => hK k  (by have := rr.2.1; omega))
    clear rr; have rr := rr_; clear rr_
    have rz_ := rz.keepBlock (w' := w11) (by omega) (fun k h1 h2 => hK k  (by have := rz.2.1; omega))
    clear rz; have rz := rz_; clear rz_
    have xk_ : Box w11 (w1.heap.size) #[.int .i64 (p : Int), .slice kA kn kc] 33 := (by rw [← hw11]; exact (xk.alloc _))
    clear xk; have xk := xk_; clear xk_
    have xt_ : Box w11 (w2.heap.size) #[.int .i64 (ts : Int), .int .i64 (ta : Int)] 40 := (by rw [← hw11]; exact (xt.alloc _))
    clear xt; have xt := xt_; clear xt_
    have xa_ : Box w11 (w6.heap.size) #[.slice aA0 an0 ac0, .slice aA1 an1 ac1] 38 := (by rw [← hw11]; exact (xa.alloc _))
    clear xa; have xa := xa_; clear xa_
    have xt2_ : Box w11 (w6.heap.size + 1) #[.int .i64 (ts : Int), .int .i64 t2] 40 := (by rw [← hw11]; exact (xt2.alloc _))
    clear xt2; have xt2 := xt2_; clear xt2_
    have xb_ : Box w11 (w7.heap.size) #[.slice bA0 bn0 bc0, .slice bA1 bn1 bc1] 38 := (by rw [← hw11]; exact (xb.alloc _))
    clear xb; have xb := xb_; clear xb_
    have xt3_ : Box w11 (w7.heap.size + 1) #[.int .i64 (ts : Int), .int .i64 t3] 40 := (by rw [← hw11]; exact (xt3.alloc _))
    clear xt3; have xt3 := xt3_; clear xt3_
    have xr_ : Box w11 (w8.heap.size) #[.slice rA0 rn0 rc0, .slice rA1 rn1 rc1, .slice rA2 rn2 rc2, .slice rA3 rn3 rc3, .slice rA4 rn4 rc4, .slice rA5 rn5 rc5] 68 := (by rw [← hw11]; exact (xr.alloc _))
    clear xr; have xr := xr_; clear xr_
    have xt4_ : Box w11 (w8.heap.size + 1) #[.int .i64 (ts : Int), .int .i64 t4] 40 := (by rw [← hw11]; exact (xt4.alloc _))
    clear xt4; have xt4 := xt4_; clear xt4_
    have xo_ : Box w11 (w9.heap.size) #[.int .i64 oD, .int .i64 oE] 73 := (by rw [← hw11]; exact (xo.alloc _))
    clear xo; have xo := xo_; clear xo_
    have xz_ : Box w11 (w10.heap.size) #[.slice zA0 zn0 zc0, .slice zA1 zn1 zc1] 38 := (by rw [← hw11]; exact (Box.new (g := w10.heap.size) _ #[.slice zA0 zn0 zc0, .slice zA1 zn1 zc1] 38 (by simp)))
    have xz := xz_; clear xz_
    clear hw11 hK
    obtain ⟨cxk_0, cxk_1, fxk_0, fxk_1⟩ := xk.two
    have l_xk_0 : w1.heap.size < w11.heap.size := by omega
    obtain ⟨cxr_0, cxr_1, cxr_2, cxr_3, cxr_4, cxr_5, fxr_0, fxr_1, fxr_2, fxr_3, fxr_4, fxr_5⟩ := xr.six
    have l_xr_0 : w8.heap.size < w11.heap.size := by omega
    obtain ⟨cxz_0, cxz_1, fxz_0, fxz_1⟩ := xz.two
    have l_xz_0 : w10.heap.size < w11.heap.size := by omega
    go_wp2_with fail
    clear cxk_0 cxk_1 fxk_0 fxk_1 l_xk_0 cxr_0 cxr_1 cxr_2 cxr_3 cxr_4 cxr_5 fxr_0 fxr_1 fxr_2 fxr_3 fxr_4 fxr_5 l_xr_0 cxz_0 cxz_1 fxz_0 fxz_1 l_xz_0
    refine wp_region_held_drew (S := fun W => W.cell? ⟨w1.heap.size, 0, none⟩ = some (.int .i64 (p : Int)) ∧ W.cell? ⟨w1.heap.size, 1, none⟩ = some (.slice kA kn kc) ∧ W.cell? ⟨w8.heap.size, 0, none⟩ = some (.slice rA0 rn0 rc0) ∧ W.cell? ⟨w8.heap.size, 1, none⟩ = some (.slice rA1 rn1 rc1) ∧ W.cell? ⟨w8.heap.size, 2, none⟩ = some (.slice rA2 rn2 rc2) ∧ W.cell? ⟨w8.heap.size, 3, none⟩ = some (.slice rA3 rn3 rc3) ∧ W.cell? ⟨w8.heap.size, 4, none⟩ = some (.slice rA4 rn4 rc4) ∧ W.cell? ⟨w8.heap.size, 5, none⟩ = some (.slice rA5 rn5 rc5) ∧ W.cell? ⟨w10.heap.size, 0, none⟩ = some (.slice zA0 zn0 zc0) ∧ W.cell? ⟨w10.heap.size, 1, none⟩ = some (.slice zA1 zn1 zc1)) (by kernel_rfl) ⟨xk.drew.two.1, xk.drew.two.2.1, xr.drew.six.1, xr.drew.six.2.1, xr.drew.six.2.2.1, xr.drew.six.2.2.2.1, xr.drew.six.2.2.2.2.1, xr.drew.six.2.2.2.2.2.1, xz.drew.two.1, xz.drew.two.2.1⟩ (fun hS => ?_)
    (refine tk 0 hS ?_; (try simp only [Act.put, layA, layB, layC]))
    (refine tk 1 hS ?_; (try simp only [Act.put, layA, layB, layC]))
    (refine tk 2 hS ?_; (try simp only [Act.put, layA, layB, layC]))
    (refine tk 3 hS ?_; (try simp only [Act.put, layA, layB, layC]))
    refine on 4 ?_
    refine callH (by go_simp; (first | done | with_reducible rfl | exact ⟨rfl, rfl⟩)) ?_
    go_at_call 61
    refine (iTripleOk_L (p : Int) (rk.drew).rd hal (rr.drew).rd rASn rAMn rBSn rBMn rCSn rCMn).mono ?_
    rintro e w12 ⟨rfl, b12⟩
    clear hS
    have z12 := Below.size b12
    (try simp only [World.size_alloc, World.size_setCell, size_drew] at z12)
    have B12 : Below w.heap.size w w12 := Below.t b12
    have rk_ := (rk.drew.below b12)
    clear rk; have rk := rk_; clear rk_
    have rq_ := (rq.drew.below b12)
    clear rq; have rq := rq_; clear rq_
    have ra_ := (ra.drew.below b12)
    clear ra; have ra := ra_; clear ra_
    have rb_ := (rb.drew.below b12)
    clear rb; have rb := rb_; clear rb_
    have rr_ := (rr.drew.below b12)
    clear rr; have rr := rr_; clear rr_
    have rz_ := (rz.drew.below b12)
    clear rz; have rz := rz_; clear rz_
    have xk_ : Box w12 (w1.heap.size) #[.int .i64 (p : Int), .slice kA kn kc] 33 := (Box.b xk.drew b12)
    clear xk; have xk := xk_; clear xk_
    have xt_ : Box w12 (w2.heap.size) #[.int .i64 (ts : Int), .int .i64 (ta : Int)] 40 := (Box.b xt.drew b12)
    clear xt; have xt := xt_; clear xt_
    have xa_ : Box w12 (w6.heap.size) #[.slice aA0 an0 ac0, .slice aA1 an1 ac1] 38 := (Box.b xa.drew b12)
    clear xa; have xa := xa_; clear xa_
    have xt2_ : Box w12 (w6.heap.size + 1) #[.int .i64 (ts : Int), .int .i64 t2] 40 := (Box.b xt2.drew b12)
    clear xt2; have xt2 := xt2_; clear xt2_
    have xb_ : Box w12 (w7.heap.size) #[.slice bA0 bn0 bc0, .slice bA1 bn1 bc1] 38 := (Box.b xb.drew b12)
    clear xb; have xb := xb_; clear xb_
    have xt3_ : Box w12 (w7.heap.size + 1) #[.int .i64 (ts : Int), .int .i64 t3] 40 := (Box.b xt3.drew b12)
    clear xt3; have xt3 := xt3_; clear xt3_
    have xr_ : Box w12 (w8.heap.size) #[.slice rA0 rn0 rc0, .slice rA1 rn1 rc1, .slice rA2 rn2 rc2, .slice rA3 rn3 rc3, .slice rA4 rn4 rc4, .slice rA5 rn5 rc5] 68 := (Box.b xr.drew b12)
    clear xr; have xr := xr_; clear xr_
    have xt4_ : Box w12 (w8.heap.size + 1) #[.int .i64 (ts : Int), .int .i64 t4] 40 := (Box.b xt4.drew b12)
    clear xt4; have xt4 := xt4_; clear xt4_
    have xo_ : Box w12 (w9.heap.size) #[.int .i64 oD, .int .i64 oE] 73 := (Box.b xo.drew b12)
    clear xo; have xo := xo_; clear xo_
    have xz_ : Box w12 (w10.heap.size) #[.slice zA0 zn0 zc0, .slice zA1 zn1 zc1] 38 := (Box.b xz.drew b12)
    clear xz; have xz := xz_; clear xz_
    refine ⟨.bool true, by rw [htk.out], ⟨xk.two.1, xk.two.2.1, xr.six.1, xr.six.2.1, xr.six.2.2.1, xr.six.2.2.2.1, xr.six.2.2.2.2.1, xr.six.2.2.2.2.2.1, xz.two.1, xz.two.2.1⟩, fun hS => ?_⟩
    (try simp only [Act.put, layA, layB, layC])
    (refine tk 5 hS ?_; (try simp only [Act.put, layA, layB, layC]))
    (refine tk 6 hS ?_; (try simp only [Act.put, layA, layB, layC]))
    (refine tk 7 hS ?_; (try simp only [Act.put, layA, layB, layC]))
    (refine tk 8 hS ?_; (try simp only [Act.put, layA, layB, layC]))
    refine on 9 ?_
    refine callH (by go_simp; (first | done | with_reducible rfl | exact ⟨rfl, rfl⟩)) ?_
    go_at_call 44
    refine (sAuthOk_L (p : Int) (rk).rd hal (rz).rd zSn zMn).mono ?_
    rintro e w13 ⟨rfl, b13⟩
    clear hS
    have z13 := Below.size b13
    (try simp only [World.size_alloc, World.size_setCell, size_drew] at z13)
    have B13 : Below w.heap.size w w13 := Below.t b13
    have rk_ := (rk.below b13)
    clear rk; have rk := rk_; clear rk_
    have rq_ := (rq.below b13)
    clear rq; have rq := rq_; clear rq_
    have ra_ := (ra.below b13)
    clear ra; have ra := ra_; clear ra_
    have rb_ := (rb.below b13)
    clear rb; have rb := rb_; clear rb_
    have rr_ := (rr.below b13)
    clear rr; have rr := rr_; clear rr_
    have rz_ := (rz.below b13)
    clear rz; have rz := rz_; clear rz_
    have xk_ : Box w13 (w1.heap.size) #[.int .i64 (p : Int), .slice kA kn kc] 33 := (Box.b xk b13)
    clear xk; have xk := xk_; clear xk_
    have xt_ : Box w13 (w2.heap.size) #[.int .i64 (ts : Int), .int .i64 (ta : Int)] 40 := (Box.b xt b13)
    clear xt; have xt := xt_; clear xt_
    have xa_ : Box w13 (w6.heap.size) #[.slice aA0 an0 ac0, .slice aA1 an1 ac1] 38 := (Box.b xa b13)
    clear xa; have xa := xa_; clear xa_
    have xt2_ : Box w13 (w6.heap.size + 1) #[.int .i64 (ts : Int), .int .i64 t2] 40 := (Box.b xt2 b13)
    clear xt2; have xt2 := xt2_; clear xt2_
    have xb_ : Box w13 (w7.heap.size) #[.slice bA0 bn0 bc0, .slice bA1 bn1 bc1] 38 := (Box.b xb b13)
    clear xb; have xb := xb_; clear xb_
    have xt3_ : Box w13 (w7.heap.size + 1) #[.int .i64 (ts : Int), .int .i64 t3] 40 := (Box.b xt3 b13)
    clear xt3; have xt3 := xt3_; clear xt3_
    have xr_ : Box w13 (w8.heap.size) #[.slice rA0 rn0 rc0, .slice rA1 rn1 rc1, .slice rA2 rn2 rc2, .slice rA3 rn3 rc3, .slice rA4 rn4 rc4, .slice rA5 rn5 rc5] 68 := (Box.b xr b13)
    clear xr; have xr := xr_; clear xr_
    have xt4_ : Box w13 (w8.heap.size + 1) #[.int .i64 (ts : Int), .int .i64 t4] 40 := (Box.b xt4 b13)
    clear xt4; have xt4 := xt4_; clear xt4_
    have xo_ : Box w13 (w9.heap.size) #[.int .i64 oD, .int .i64 oE] 73 := (Box.b xo b13)
    clear xo; have xo := xo_; clear xo_
    have xz_ : Box w13 (w10.heap.size) #[.slice zA0 zn0 zc0, .slice zA1 zn1 zc1] 38 := (Box.b xz b13)
    clear xz; have xz := xz_; clear xz_
    refine ⟨.bool true, by rw [hzk.out], ⟨xk.two.1, xk.two.2.1, xr.six.1, xr.six.2.1, xr.six.2.2.1, xr.six.2.2.2.1, xr.six.2.2.2.2.1, xr.six.2.2.2.2.2.1, xz.two.1, xz.two.2.1⟩, fun hS => ?_⟩
    (try simp only [Act.put, layA, layB, layC])
    (refine tk 10 hS ?_; (try simp only [Act.put, layA, layB, layC]))
    (refine tk 11 hS ?_; (try simp only [Act.put, layA, layB, layC]))
    (refine tk 12 hS ?_; (try simp only [Act.put, layA, layB, layC]))
    (refine tk 13 hS ?_; (try simp only [Act.put, layA, layB, layC]))
    (refine tk 14 hS ?_; (try simp only [Act.put, layA, layB, layC]))
    (refine tk 15 hS ?_; (try simp only [Act.put, layA, layB, layC]))
    (refine tk 17 hS ?_; (try simp only [Act.put, layA, layB, layC]))
    (refine tk 18 hS ?_; (try simp only [Act.put, layA, layB, layC]))
    (refine tk 19 hS ?_; (try simp only [Act.put, layA, layB, layC]))
    (refine tk 20 hS ?_; (try simp only [Act.put, layA, layB, layC]))
    (refine tk 21 hS ?_; (try simp only [Act.put, layA, layB, layC]))
    (refine tk 22 hS ?_; (try simp only [Act.put, layA, layB, layC]))
    refine on 16 ?_
    refine callH (by go_simp; (first | done | with_reducible rfl | exact ⟨rfl, rfl⟩)) ?_
    go_at_call 79
    refine (sOpenAdd_L (p : Int) (RdL.sub (ls2 := [(.slice zA0 zn0 zc0, .ints zS)]) (rz).rd (by simp)) hz5.out).mono ?_
    rintro e w_ ⟨rfl, rfl⟩
    refine ⟨.int .i64 (x * y % (p : Int)), by rw [hzv.out], hS, fun hS => ?_⟩
    (try simp only [Act.put, layA, layB, layC])
    (refine tk 23 hS ?_; (try simp only [Act.put, layA, layB, layC]))
    (refine tk 24 hS ?_; (try simp only [Act.put, layA, layB, layC]))
    (refine tk 25 hS ?_; (try simp only [Act.put, layA, layB, layC]))
    clear hS
    refine wpAnyH_done (by kernel_rfl) ?_ _
    go_wp2
    go_ret
    exact ⟨ret_bool (by simp), by repeat (with_reducible (first | assumption | exact Below.refl _ _ | refine Below.alloc ?_ (by first | omega | (simp; done) | (simp; omega)) _ | refine Below.setCell ?_ (by first | omega | (simp; done) | (simp; omega)) _ | refine Below.drew ?_ | refine below_drewN ?_ _))⟩
end Go.Proofs.Ytllnnbmgdbinnaa

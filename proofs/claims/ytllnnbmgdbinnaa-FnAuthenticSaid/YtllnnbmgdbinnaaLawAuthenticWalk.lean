/- The walk of the law FnAuthentic. Printed by laws3.py. -/
import Derived.Test.YtllnnbmgdbinnaaDrawK
import Derived.Test.YtllnnbmgdbinnaaAuthN
import Derived.Test.YtllnnbmgdbinnaaMac3
import Derived.Test.YtllnnbmgdbinnaaTriLaw
import Derived.Test.YtllnnbmgdbinnaaSameB
import Derived.Test.YtllnnbmgdbinnaaOpenS
namespace Go.Proofs.Ytllnnbmgdbinnaa
set_option linter.unusedSimpArgs false
set_option linter.unusedVariables false
open Go.RowKit
set_option maxRecDepth 100000 in
set_option maxHeartbeats 10000000 in
theorem walk_FnAuthentic (A : Option Addr) (n c : Nat) (w : World) (hx : Bts0 w A n) :
    Calls Try.prog 22 #[.slice A n c] w fun e w' => e = .returned (.bool true) ∧ Below w.heap.size w w' := by
  by_cases hn : (1048576 : Int) < n
  · go_enter Try.func22, Try.ntmps22
    go_wp2_with fail
    refine (big_any _ _ _ _).mono ?_
    rintro e w1 ⟨rfl, rfl⟩
    go_wp2
    go_ret
    exact ⟨rfl, Below.refl _ _⟩
  · have hB0 : Bts w A n := ⟨by omega, hx.2⟩
    go_enter Try.func22, Try.ntmps22
    go_wp2_with fail
    refine (big_any _ _ _ _).mono ?_
    rintro e w_ ⟨rfl, rfl⟩
    go_wp2_with fail
    refine (DrawKeys_any n c A _ hB0).mono ?_
    rintro e w1 ⟨p, al, kA, kn, kc, hk, rfl, rk, b1⟩
    have B1 := b1
    have z1 := b1.size
    have HK := Lib.hid hk
    have HF := Lib.hid (keys_fOk hk)
    have HL := Lib.hid (keysOk_iff.1 hk)
    obtain ⟨hp1, hp2⟩ := fOk_bd HF.out
    have hal : al.length ≤ 1048576 := by have := HL.out; omega
    have hp0 : ¬ p = 0 := by omega
    clear b1 hk
    go_wp2_with fail
    refine (DrawTape_any n c A _ (hB0.keep fun _ a _ ha => (show Below w.heap.size w _ from by repeat (with_reducible (first | assumption | exact Below.refl _ _ | refine Below.alloc ?_ (by first | omega | (simp; done) | (simp; omega)) _ | refine Below.setCell ?_ (by first | omega | (simp; done) | (simp; omega)) _ | refine Below.drew ?_ | refine below_drewN ?_ _))).block _ ha)).mono ?_
    rintro e w2 ⟨ts, ta, hts, hta, rfl, b2⟩
    have z2 := b2.size
    try simp only [World.size_alloc, World.size_setCell, size_drew] at z2
    have B2 : Below w.heap.size w w2 := Below.t b2
    have rk_ := (rk.alloc _).below b2
    clear rk; have rk := rk_; clear rk_
    have xk_ : Box w2 (w1.heap.size) #[.int .i64 (p : Int), .slice kA kn kc] 33 := (Box.new (g := w1.heap.size) _ #[.int .i64 (p : Int), .slice kA kn kc] 33 (by simp)).below b2 (by first | omega | (simp [size_drew]; done) | (simp [size_drew]; omega))
    have xk := xk_; clear xk_
    go_wp2_with fail
    refine (DrawPlaces_any n c A _ (hB0.keep fun _ a _ ha => (show Below w.heap.size w _ from by repeat (with_reducible (first | assumption | exact Below.refl _ _ | refine Below.alloc ?_ (by first | omega | (simp; done) | (simp; omega)) _ | refine Below.setCell ?_ (by first | omega | (simp; done) | (simp; omega)) _ | refine Below.drew ?_ | refine below_drewN ?_ _))).block _ ha)).mono ?_
    rintro e w3 ⟨v, l, rfl, hl, ha, ho, b3⟩
    have z3 := b3.size
    try simp only [World.size_alloc, World.size_setCell, size_drew] at z3
    have B3 : Below w.heap.size w w3 := Below.t b3
    have rk_ := (rk.alloc _).below b3
    clear rk; have rk := rk_; clear rk_
    have xk_ : Box w3 (w1.heap.size) #[.int .i64 (p : Int), .slice kA kn kc] 33 := (xk.alloc _).below b3 (by first | omega | (simp [size_drew]; done) | (simp [size_drew]; omega))
    clear xk; have xk := xk_; clear xk_
    have xt_ : Box w3 (w2.heap.size) #[.int .i64 (ts : Int), .int .i64 (ta : Int)] 40 := (Box.new (g := w2.heap.size) _ #[.int .i64 (ts : Int), .int .i64 (ta : Int)] 40 (by simp)).below b3 (by first | omega | (simp [size_drew]; done) | (simp [size_drew]; omega))
    have xt := xt_; clear xt_
    obtain ⟨Bp, dp, rfl, hI⟩ := ho.reads
    rw [hl] at hI ho ⊢
    obtain ⟨gp, op, rfl, hgp, _⟩ := hI.block (by omega)
    have rq : OwnL w3 (w2.heap.size + 1) w3.heap.size [(.slice (some ⟨gp, op, none⟩) 12 dp, .ints l)] := OwnL.one (d := .ints l) (show OwnD _ _ _ (.ints l) by unfold OwnD; (first | exact ho | (simp only [World.size_alloc] at ho; exact ho))) (by omega)
    clear hI ho
    have HA := Lib.hid ha
    have Hl := Lib.hid hl
    clear ha hl
    obtain ⟨q0l, q0h⟩ := HA.out (nth l 0) (by rw [nth_lt (by rw [Hl.out]; omega)]; exact List.getElem_mem _)
    have ht0 : (nth l 0).tmod (p : Int) = nth l 0 % (p : Int) := Int.tmod_eq_emod_of_nonneg q0l
    obtain ⟨cxk_0, cxk_1, fxk_0, fxk_1⟩ := xk.two
    have l_xk_0 : w1.heap.size < w3.heap.size := by omega
    go_wp2_with fail
    clear cxk_0 cxk_1 fxk_0 fxk_1 l_xk_0
    refine wp_region_held_drew (S := fun W => W.cell? ⟨w1.heap.size, 0, none⟩ = some (.int .i64 (p : Int)) ∧ W.cell? ⟨w1.heap.size, 1, none⟩ = some (.slice kA kn kc) ∧ W.cell? ⟨gp, op, none⟩ = some (.int .i64 (nth l 0))) (by kernel_rfl) ⟨xk.drew.two.1, xk.drew.two.2.1, (ownCell (l := l) (rq.drew) (List.mem_cons_self) 0 (by rw [Hl.out]; omega))⟩ (fun hS => ?_)
    (refine tk 0 hS ?_; (try simp only [Act.put, layA, layB, layC]))
    (refine tk 1 hS ?_; (try simp only [Act.put, layA, layB, layC]))
    (refine tk 2 hS ?_; (try simp only [Act.put, layA, layB, layC]))
    (refine tk 3 hS ?_; (try simp only [Act.put, layA, layB, layC]))
    (refine tk 4 hS ?_; (try simp only [Act.put, layA, layB, layC]))
    (refine tk 5 hS ?_; (try simp only [Act.put, layA, layB, layC]))
    (refine tk 6 hS ?_; (try simp only [Act.put, layA, layB, layC]))
    clear hS
    refine wpAnyH_done (by kernel_rfl) ?_ _
    generalize hw4 : World.drew _ = w4
    have z4 : w3.heap.size ≤ w4.heap.size := by rw [← hw4]; simp [size_drew]
    have B4 : Below w.heap.size w w4 := by rw [← hw4]; repeat (with_reducible (first | assumption | exact Below.refl _ _ | refine Below.alloc ?_ (by first | omega | (simp; done) | (simp; omega)) _ | refine Below.setCell ?_ (by first | omega | (simp; done) | (simp; omega)) _ | refine Below.drew ?_ | refine below_drewN ?_ _))
    have hK : ∀ k, k < w3.heap.size → w4.heap[k]? = w3.heap[k]? := by
      intro k hk; rw [← hw4]
      repeat (first | rfl | refine (Below.heap_alloc _ _ _ (by first | omega | (simp; omega))).trans ?_)
    have rk_ := rk.keepBlock (w' := w4) (by omega) (fun k h1 h2 => hK k  (by have := rk.2.1; omega))
    clear rk; have rk := rk_; clear rk_
    have rq_ := rq.keepBlock (w' := w4) (by omega) (fun k h1 h2 => hK k  (by have := rq.2.1; omega))
    clear rq; have rq := rq_; clear rq_
    have xk_ : Box w4 (w1.heap.size) #[.int .i64 (p : Int), .slice kA kn kc] 33 := (by rw [← hw4]; exact xk)
    clear xk; have xk := xk_; clear xk_
    have xt_ : Box w4 (w2.heap.size) #[.int .i64 (ts : Int), .int .i64 (ta : Int)] 40 := (by rw [← hw4]; exact xt)
    clear xt; have xt := xt_; clear xt_
    clear hw4 hK
    have ex : Hid (elem (p : Int) (nth l 0 % (p : Int)) = true) := elem_mod HF.out _
    clear ht0 q0l q0h
    generalize nth l 0 % (p : Int) = x at *
    obtain ⟨q1l, q1h⟩ := HA.out (nth l 1) (by rw [nth_lt (by rw [Hl.out]; omega)]; exact List.getElem_mem _)
    have ht1 : (nth l 1).tmod (p : Int) = nth l 1 % (p : Int) := Int.tmod_eq_emod_of_nonneg q1l
    obtain ⟨cxk_0, cxk_1, fxk_0, fxk_1⟩ := xk.two
    have l_xk_0 : w1.heap.size < w4.heap.size := by omega
    go_wp2_with fail
    clear cxk_0 cxk_1 fxk_0 fxk_1 l_xk_0
    refine wp_region_held_drew (S := fun W => W.cell? ⟨w1.heap.size, 0, none⟩ = some (.int .i64 (p : Int)) ∧ W.cell? ⟨w1.heap.size, 1, none⟩ = some (.slice kA kn kc) ∧ W.cell? ⟨gp, op + 1, none⟩ = some (.int .i64 (nth l 1))) (by kernel_rfl) ⟨xk.drew.two.1, xk.drew.two.2.1, (ownCell (l := l) (rq.drew) (List.mem_cons_self) 1 (by rw [Hl.out]; omega))⟩ (fun hS => ?_)
    (refine tk 0 hS ?_; (try simp only [Act.put, layA, layB, layC]))
    (refine tk 1 hS ?_; (try simp only [Act.put, layA, layB, layC]))
    (refine tk 2 hS ?_; (try simp only [Act.put, layA, layB, layC]))
    (refine tk 3 hS ?_; (try simp only [Act.put, layA, layB, layC]))
    (refine tk 4 hS ?_; (try simp only [Act.put, layA, layB, layC]))
    (refine tk 5 hS ?_; (try simp only [Act.put, layA, layB, layC]))
    (refine tk 6 hS ?_; (try simp only [Act.put, layA, layB, layC]))
    clear hS
    refine wpAnyH_done (by kernel_rfl) ?_ _
    generalize hw5 : World.drew _ = w5
    have z5 : w4.heap.size ≤ w5.heap.size := by rw [← hw5]; simp [size_drew]
    have B5 : Below w.heap.size w w5 := by rw [← hw5]; repeat (with_reducible (first | assumption | exact Below.refl _ _ | refine Below.alloc ?_ (by first | omega | (simp; done) | (simp; omega)) _ | refine Below.setCell ?_ (by first | omega | (simp; done) | (simp; omega)) _ | refine Below.drew ?_ | refine below_drewN ?_ _))
    have hK : ∀ k, k < w4.heap.size → w5.heap[k]? = w4.heap[k]? := by
      intro k hk; rw [← hw5]
      repeat (first | rfl | refine (Below.heap_alloc _ _ _ (by first | omega | (simp; omega))).trans ?_)
    have rk_ := rk.keepBlock (w' := w5) (by omega) (fun k h1 h2 => hK k  (by have := rk.2.1; omega))
    clear rk; have rk := rk_; clear rk_
    have rq_ := rq.keepBlock (w' := w5) (by omega) (fun k h1 h2 => hK k  (by have := rq.2.1; omega))
    clear rq; have rq := rq_; clear rq_
    have xk_ : Box w5 (w1.heap.size) #[.int .i64 (p : Int), .slice kA kn kc] 33 := (by rw [← hw5]; exact xk)
    clear xk; have xk := xk_; clear xk_
    have xt_ : Box w5 (w2.heap.size) #[.int .i64 (ts : Int), .int .i64 (ta : Int)] 40 := (by rw [← hw5]; exact xt)
    clear xt; have xt := xt_; clear xt_
    clear hw5 hK
    have ey : Hid (elem (p : Int) (nth l 1 % (p : Int)) = true) := elem_mod HF.out _
    clear ht1 q1l q1h
    generalize nth l 1 % (p : Int) = y at *
    obtain ⟨q2l, q2h⟩ := HA.out (nth l 2) (by rw [nth_lt (by rw [Hl.out]; omega)]; exact List.getElem_mem _)
    have ht2 : (nth l 2).tmod (p : Int) = nth l 2 % (p : Int) := Int.tmod_eq_emod_of_nonneg q2l
    obtain ⟨cxk_0, cxk_1, fxk_0, fxk_1⟩ := xk.two
    have l_xk_0 : w1.heap.size < w5.heap.size := by omega
    go_wp2_with fail
    clear cxk_0 cxk_1 fxk_0 fxk_1 l_xk_0
    refine wp_region_held_drew (S := fun W => W.cell? ⟨w1.heap.size, 0, none⟩ = some (.int .i64 (p : Int)) ∧ W.cell? ⟨w1.heap.size, 1, none⟩ = some (.slice kA kn kc) ∧ W.cell? ⟨gp, op + 2, none⟩ = some (.int .i64 (nth l 2))) (by kernel_rfl) ⟨xk.drew.two.1, xk.drew.two.2.1, (ownCell (l := l) (rq.drew) (List.mem_cons_self) 2 (by rw [Hl.out]; omega))⟩ (fun hS => ?_)
    (refine tk 0 hS ?_; (try simp only [Act.put, layA, layB, layC]))
    (refine tk 1 hS ?_; (try simp only [Act.put, layA, layB, layC]))
    (refine tk 2 hS ?_; (try simp only [Act.put, layA, layB, layC]))
    (refine tk 3 hS ?_; (try simp only [Act.put, layA, layB, layC]))
    (refine tk 4 hS ?_; (try simp only [Act.put, layA, layB, layC]))
    (refine tk 5 hS ?_; (try simp only [Act.put, layA, layB, layC]))
    (refine tk 6 hS ?_; (try simp only [Act.put, layA, layB, layC]))
    clear hS
    refine wpAnyH_done (by kernel_rfl) ?_ _
    generalize hw6 : World.drew _ = w6
    have z6 : w5.heap.size ≤ w6.heap.size := by rw [← hw6]; simp [size_drew]
    have B6 : Below w.heap.size w w6 := by rw [← hw6]; repeat (with_reducible (first | assumption | exact Below.refl _ _ | refine Below.alloc ?_ (by first | omega | (simp; done) | (simp; omega)) _ | refine Below.setCell ?_ (by first | omega | (simp; done) | (simp; omega)) _ | refine Below.drew ?_ | refine below_drewN ?_ _))
    have hK : ∀ k, k < w5.heap.size → w6.heap[k]? = w5.heap[k]? := by
      intro k hk; rw [← hw6]
      repeat (first | rfl | refine (Below.heap_alloc _ _ _ (by first | omega | (simp; omega))).trans ?_)
    have rk_ := rk.keepBlock (w' := w6) (by omega) (fun k h1 h2 => hK k  (by have := rk.2.1; omega))
    clear rk; have rk := rk_; clear rk_
    have rq_ := rq.keepBlock (w' := w6) (by omega) (fun k h1 h2 => hK k  (by have := rq.2.1; omega))
    clear rq; have rq := rq_; clear rq_
    have xk_ : Box w6 (w1.heap.size) #[.int .i64 (p : Int), .slice kA kn kc] 33 := (by rw [← hw6]; exact xk)
    clear xk; have xk := xk_; clear xk_
    have xt_ : Box w6 (w2.heap.size) #[.int .i64 (ts : Int), .int .i64 (ta : Int)] 40 := (by rw [← hw6]; exact xt)
    clear xt; have xt := xt_; clear xt_
    clear hw6 hK
    have ec : Hid (elem (p : Int) (nth l 2 % (p : Int)) = true) := elem_mod HF.out _
    clear ht2 q2l q2h
    generalize nth l 2 % (p : Int) = c at *
    obtain ⟨cxk_0, cxk_1, fxk_0, fxk_1⟩ := xk.two
    have l_xk_0 : w1.heap.size < w6.heap.size := by omega
    obtain ⟨cxt_0, cxt_1, fxt_0, fxt_1⟩ := xt.two
    have l_xt_0 : w2.heap.size < w6.heap.size := by omega
    go_wp2_with fail
    refine (iAuthNew_L (p : Int) (rk).rd hal x (ts : Int) (ta : Int)).mono ?_
    rintro e w7 ⟨aA0, an0, ac0, aA1, an1, ac1, rfl, ra, b7⟩
    clear cxk_0 cxk_1 fxk_0 fxk_1 l_xk_0 cxt_0 cxt_1 fxt_0 fxt_1 l_xt_0
    have z7 := b7.size
    try simp only [World.size_alloc, World.size_setCell, size_drew] at z7
    have B7 : Below w.heap.size w w7 := Below.t b7
    have rk_ := rk.below b7
    clear rk; have rk := rk_; clear rk_
    have rq_ := rq.below b7
    clear rq; have rq := rq_; clear rq_
    have xk_ : Box w7 (w1.heap.size) #[.int .i64 (p : Int), .slice kA kn kc] 33 := xk.below b7 (by first | omega | (simp [size_drew]; done) | (simp [size_drew]; omega))
    clear xk; have xk := xk_; clear xk_
    have xt_ : Box w7 (w2.heap.size) #[.int .i64 (ts : Int), .int .i64 (ta : Int)] 40 := xt.below b7 (by first | omega | (simp [size_drew]; done) | (simp [size_drew]; omega))
    clear xt; have xt := xt_; clear xt_
    try simp only [World.size_alloc, World.size_setCell, size_drew] at ra
    have Va := Lib.hid (isV_n (s := (ts : Int)) (a := (ta : Int)) HK.out x ex.out (by omega) (by omega))
    have bt2 := (n_new (s := (ts : Int)) (a := (ta : Int)) HK.out x ex.out (by omega) (by omega)).2
    generalize nS (p : Int) al x (ts : Int) (ta : Int) = aS at *
    generalize nM (p : Int) al x (ts : Int) (ta : Int) = aM at *
    generalize nT (p : Int) al x (ts : Int) (ta : Int) = t2 at *
    have aSn : aS.length ≤ 1048576 := by have := Va.out.len; have := HL.out; omega
    have aMn : aM.length ≤ 1048576 := by have := Va.out.len; have := HL.out; omega
    obtain ⟨cxk_0, cxk_1, fxk_0, fxk_1⟩ := xk.two
    have l_xk_0 : w1.heap.size < w7.heap.size := by omega
    have l_xk_1 : w1.heap.size < w7.heap.size + 1 := by omega
    have l_xk_2 : w1.heap.size < w7.heap.size + 1 + 1 := by omega
    go_wp2_with fail
    refine (iAuthNew_L (p : Int) (((rk.alloc _).alloc _)).rd hal y (ts : Int) t2).mono ?_
    rintro e w8 ⟨bA0, bn0, bc0, bA1, bn1, bc1, rfl, rb, b8⟩
    clear cxk_0 cxk_1 fxk_0 fxk_1 l_xk_0 l_xk_1 l_xk_2
    have z8 := b8.size
    try simp only [World.size_alloc, World.size_setCell, size_drew] at z8
    have B8 : Below w.heap.size w w8 := Below.t b8
    have rk_ := ((rk.alloc _).alloc _).below b8
    clear rk; have rk := rk_; clear rk_
    have rq_ := ((rq.alloc _).alloc _).below b8
    clear rq; have rq := rq_; clear rq_
    have ra_ := ((ra.alloc _).alloc _).below b8
    clear ra; have ra := ra_; clear ra_
    have xk_ : Box w8 (w1.heap.size) #[.int .i64 (p : Int), .slice kA kn kc] 33 := ((xk.alloc _).alloc _).below b8 (by first | omega | (simp [size_drew]; done) | (simp [size_drew]; omega))
    clear xk; have xk := xk_; clear xk_
    have xt_ : Box w8 (w2.heap.size) #[.int .i64 (ts : Int), .int .i64 (ta : Int)] 40 := ((xt.alloc _).alloc _).below b8 (by first | omega | (simp [size_drew]; done) | (simp [size_drew]; omega))
    clear xt; have xt := xt_; clear xt_
    have xa_ : Box w8 (w7.heap.size) #[.slice aA0 an0 ac0, .slice aA1 an1 ac1] 38 := ((Box.new (g := w7.heap.size) _ #[.slice aA0 an0 ac0, .slice aA1 an1 ac1] 38 (by simp)).alloc _).below b8 (by first | omega | (simp [size_drew]; done) | (simp [size_drew]; omega))
    have xa := xa_; clear xa_
    have xt2_ : Box w8 (w7.heap.size + 1) #[.int .i64 (ts : Int), .int .i64 t2] 40 := (Box.new (g := w7.heap.size + 1) _ #[.int .i64 (ts : Int), .int .i64 t2] 40 (by simp)).below b8 (by first | omega | (simp [size_drew]; done) | (simp [size_drew]; omega))
    have xt2 := xt2_; clear xt2_
    try simp only [World.size_alloc, World.size_setCell, size_drew] at rb
    have Vb := Lib.hid (isV_n (s := (ts : Int)) (a := t2) HK.out y ey.out (by omega) (by omega))
    have bt3 := (n_new (s := (ts : Int)) (a := t2) HK.out y ey.out (by omega) (by omega)).2
    generalize nS (p : Int) al y (ts : Int) t2 = bS at *
    generalize nM (p : Int) al y (ts : Int) t2 = bM at *
    generalize nT (p : Int) al y (ts : Int) t2 = t3 at *
    have bSn : bS.length ≤ 1048576 := by have := Vb.out.len; have := HL.out; omega
    have bMn : bM.length ≤ 1048576 := by have := Vb.out.len; have := HL.out; omega
    obtain ⟨cxk_0, cxk_1, fxk_0, fxk_1⟩ := xk.two
    have l_xk_0 : w1.heap.size < w8.heap.size := by omega
    have l_xk_1 : w1.heap.size < w8.heap.size + 1 := by omega
    have l_xk_2 : w1.heap.size < w8.heap.size + 1 + 1 := by omega
    obtain ⟨cxa_0, cxa_1, fxa_0, fxa_1⟩ := xa.two
    have l_xa_0 : w7.heap.size < w8.heap.size := by omega
    have l_xa_1 : w7.heap.size < w8.heap.size + 1 := by omega
    have l_xa_2 : w7.heap.size < w8.heap.size + 1 + 1 := by omega
    go_wp2_with fail
    refine (iAuthAdd_L (p : Int) (((rk.alloc _).alloc _)).rd hal (((ra.alloc _).alloc _)).rd aSn aMn (((rb.alloc _).alloc _)).rd bSn bMn).mono ?_
    rintro e w9 ⟨sA0, sn0, sc0, sA1, sn1, sc1, rfl, rs, b9⟩
    clear cxk_0 cxk_1 fxk_0 fxk_1 l_xk_0 l_xk_1 l_xk_2 cxa_0 cxa_1 fxa_0 fxa_1 l_xa_0 l_xa_1 l_xa_2
    have z9 := b9.size
    try simp only [World.size_alloc, World.size_setCell, size_drew] at z9
    have B9 : Below w.heap.size w w9 := Below.t b9
    have rk_ := ((rk.alloc _).alloc _).below b9
    clear rk; have rk := rk_; clear rk_
    have rq_ := ((rq.alloc _).alloc _).below b9
    clear rq; have rq := rq_; clear rq_
    have ra_ := ((ra.alloc _).alloc _).below b9
    clear ra; have ra := ra_; clear ra_
    have rb_ := ((rb.alloc _).alloc _).below b9
    clear rb; have rb := rb_; clear rb_
    have xk_ : Box w9 (w1.heap.size) #[.int .i64 (p : Int), .slice kA kn kc] 33 := ((xk.alloc _).alloc _).below b9 (by first | omega | (simp [size_drew]; done) | (simp [size_drew]; omega))
    clear xk; have xk := xk_; clear xk_
    have xt_ : Box w9 (w2.heap.size) #[.int .i64 (ts : Int), .int .i64 (ta : Int)] 40 := ((xt.alloc _).alloc _).below b9 (by first | omega | (simp [size_drew]; done) | (simp [size_drew]; omega))
    clear xt; have xt := xt_; clear xt_
    have xa_ : Box w9 (w7.heap.size) #[.slice aA0 an0 ac0, .slice aA1 an1 ac1] 38 := ((xa.alloc _).alloc _).below b9 (by first | omega | (simp [size_drew]; done) | (simp [size_drew]; omega))
    clear xa; have xa := xa_; clear xa_
    have xt2_ : Box w9 (w7.heap.size + 1) #[.int .i64 (ts : Int), .int .i64 t2] 40 := ((xt2.alloc _).alloc _).below b9 (by first | omega | (simp [size_drew]; done) | (simp [size_drew]; omega))
    clear xt2; have xt2 := xt2_; clear xt2_
    have xb_ : Box w9 (w8.heap.size) #[.slice bA0 bn0 bc0, .slice bA1 bn1 bc1] 38 := ((Box.new (g := w8.heap.size) _ #[.slice bA0 bn0 bc0, .slice bA1 bn1 bc1] 38 (by simp)).alloc _).below b9 (by first | omega | (simp [size_drew]; done) | (simp [size_drew]; omega))
    have xb := xb_; clear xb_
    have xt3_ : Box w9 (w8.heap.size + 1) #[.int .i64 (ts : Int), .int .i64 t3] 40 := (Box.new (g := w8.heap.size + 1) _ #[.int .i64 (ts : Int), .int .i64 t3] 40 (by simp)).below b9 (by first | omega | (simp [size_drew]; done) | (simp [size_drew]; omega))
    have xt3 := xt3_; clear xt3_
    try simp only [World.size_alloc, World.size_setCell, size_drew] at rs
    have Vs := Lib.hid (Va.out.addA Vb.out)
    generalize aAddS (p : Int) al aS aM bS bM = sS at *
    generalize aAddM (p : Int) al aS aM bS bM = sM at *
    have sSn : sS.length ≤ 1048576 := by have := Vs.out.len; have := HL.out; omega
    have sMn : sM.length ≤ 1048576 := by have := Vs.out.len; have := HL.out; omega
    obtain ⟨cxk_0, cxk_1, fxk_0, fxk_1⟩ := xk.two
    have l_xk_0 : w1.heap.size < w9.heap.size := by omega
    have l_xk_1 : w1.heap.size < w9.heap.size + 1 := by omega
    obtain ⟨cxa_0, cxa_1, fxa_0, fxa_1⟩ := xa.two
    have l_xa_0 : w7.heap.size < w9.heap.size := by omega
    have l_xa_1 : w7.heap.size < w9.heap.size + 1 := by omega
    go_wp2_with fail
    refine (iAuthScale_L (p : Int) ((rk.alloc _)).rd hal ((ra.alloc _)).rd aSn aMn c).mono ?_
    rintro e w10 ⟨mA0, mn0, mc0, mA1, mn1, mc1, rfl, rm, b10⟩
    clear cxk_0 cxk_1 fxk_0 fxk_1 l_xk_0 l_xk_1 cxa_0 cxa_1 fxa_0 fxa_1 l_xa_0 l_xa_1
    have z10 := b10.size
    try simp only [World.size_alloc, World.size_setCell, size_drew] at z10
    have B10 : Below w.heap.size w w10 := Below.t b10
    have rk_ := (rk.alloc _).below b10
    clear rk; have rk := rk_; clear rk_
    have rq_ := (rq.alloc _).below b10
    clear rq; have rq := rq_; clear rq_
    have ra_ := (ra.alloc _).below b10
    clear ra; have ra := ra_; clear ra_
    have rb_ := (rb.alloc _).below b10
    clear rb; have rb := rb_; clear rb_
    have rs_ := (rs.alloc _).below b10
    clear rs; have rs := rs_; clear rs_
    have xk_ : Box w10 (w1.heap.size) #[.int .i64 (p : Int), .slice kA kn kc] 33 := (xk.alloc _).below b10 (by first | omega | (simp [size_drew]; done) | (simp [size_drew]; omega))
    clear xk; have xk := xk_; clear xk_
    have xt_ : Box w10 (w2.heap.size) #[.int .i64 (ts : Int), .int .i64 (ta : Int)] 40 := (xt.alloc _).below b10 (by first | omega | (simp [size_drew]; done) | (simp [size_drew]; omega))
    clear xt; have xt := xt_; clear xt_
    have xa_ : Box w10 (w7.heap.size) #[.slice aA0 an0 ac0, .slice aA1 an1 ac1] 38 := (xa.alloc _).below b10 (by first | omega | (simp [size_drew]; done) | (simp [size_drew]; omega))
    clear xa; have xa := xa_; clear xa_
    have xt2_ : Box w10 (w7.heap.size + 1) #[.int .i64 (ts : Int), .int .i64 t2] 40 := (xt2.alloc _).below b10 (by first | omega | (simp [size_drew]; done) | (simp [size_drew]; omega))
    clear xt2; have xt2 := xt2_; clear xt2_
    have xb_ : Box w10 (w8.heap.size) #[.slice bA0 bn0 bc0, .slice bA1 bn1 bc1] 38 := (xb.alloc _).below b10 (by first | omega | (simp [size_drew]; done) | (simp [size_drew]; omega))
    clear xb; have xb := xb_; clear xb_
    have xt3_ : Box w10 (w8.heap.size + 1) #[.int .i64 (ts : Int), .int .i64 t3] 40 := (xt3.alloc _).below b10 (by first | omega | (simp [size_drew]; done) | (simp [size_drew]; omega))
    clear xt3; have xt3 := xt3_; clear xt3_
    have xs_ : Box w10 (w9.heap.size) #[.slice sA0 sn0 sc0, .slice sA1 sn1 sc1] 38 := (Box.new (g := w9.heap.size) _ #[.slice sA0 sn0 sc0, .slice sA1 sn1 sc1] 38 (by simp)).below b10 (by first | omega | (simp [size_drew]; done) | (simp [size_drew]; omega))
    have xs := xs_; clear xs_
    try simp only [World.size_alloc, World.size_setCell, size_drew] at rm
    have Vm := Lib.hid (Va.out.scA ec.out)
    generalize aScS (p : Int) al aS aM c = mS at *
    generalize aScM (p : Int) al aS aM c = mM at *
    have mSn : mS.length ≤ 1048576 := by have := Vm.out.len; have := HL.out; omega
    have mMn : mM.length ≤ 1048576 := by have := Vm.out.len; have := HL.out; omega
    obtain ⟨cxk_0, cxk_1, fxk_0, fxk_1⟩ := xk.two
    have l_xk_0 : w1.heap.size < w10.heap.size := by omega
    have l_xk_1 : w1.heap.size < w10.heap.size + 1 := by omega
    obtain ⟨cxa_0, cxa_1, fxa_0, fxa_1⟩ := xa.two
    have l_xa_0 : w7.heap.size < w10.heap.size := by omega
    have l_xa_1 : w7.heap.size < w10.heap.size + 1 := by omega
    go_wp2_with fail
    refine (iAuthConst_L (p : Int) ((rk.alloc _)).rd hal ((ra.alloc _)).rd aSn aMn c).mono ?_
    rintro e w11 ⟨dA0, dn0, dc0, dA1, dn1, dc1, rfl, rd, b11⟩
    clear cxk_0 cxk_1 fxk_0 fxk_1 l_xk_0 l_xk_1 cxa_0 cxa_1 fxa_0 fxa_1 l_xa_0 l_xa_1
    have z11 := b11.size
    try simp only [World.size_alloc, World.size_setCell, size_drew] at z11
    have B11 : Below w.heap.size w w11 := Below.t b11
    have rk_ := (rk.alloc _).below b11
    clear rk; have rk := rk_; clear rk_
    have rq_ := (rq.alloc _).below b11
    clear rq; have rq := rq_; clear rq_
    have ra_ := (ra.alloc _).below b11
    clear ra; have ra := ra_; clear ra_
    have rb_ := (rb.alloc _).below b11
    clear rb; have rb := rb_; clear rb_
    have rs_ := (rs.alloc _).below b11
    clear rs; have rs := rs_; clear rs_
    have rm_ := (rm.alloc _).below b11
    clear rm; have rm := rm_; clear rm_
    have xk_ : Box w11 (w1.heap.size) #[.int .i64 (p : Int), .slice kA kn kc] 33 := (xk.alloc _).below b11 (by first | omega | (simp [size_drew]; done) | (simp [size_drew]; omega))
    clear xk; have xk := xk_; clear xk_
    have xt_ : Box w11 (w2.heap.size) #[.int .i64 (ts : Int), .int .i64 (ta : Int)] 40 := (xt.alloc _).below b11 (by first | omega | (simp [size_drew]; done) | (simp [size_drew]; omega))
    clear xt; have xt := xt_; clear xt_
    have xa_ : Box w11 (w7.heap.size) #[.slice aA0 an0 ac0, .slice aA1 an1 ac1] 38 := (xa.alloc _).below b11 (by first | omega | (simp [size_drew]; done) | (simp [size_drew]; omega))
    clear xa; have xa := xa_; clear xa_
    have xt2_ : Box w11 (w7.heap.size + 1) #[.int .i64 (ts : Int), .int .i64 t2] 40 := (xt2.alloc _).below b11 (by first | omega | (simp [size_drew]; done) | (simp [size_drew]; omega))
    clear xt2; have xt2 := xt2_; clear xt2_
    have xb_ : Box w11 (w8.heap.size) #[.slice bA0 bn0 bc0, .slice bA1 bn1 bc1] 38 := (xb.alloc _).below b11 (by first | omega | (simp [size_drew]; done) | (simp [size_drew]; omega))
    clear xb; have xb := xb_; clear xb_
    have xt3_ : Box w11 (w8.heap.size + 1) #[.int .i64 (ts : Int), .int .i64 t3] 40 := (xt3.alloc _).below b11 (by first | omega | (simp [size_drew]; done) | (simp [size_drew]; omega))
    clear xt3; have xt3 := xt3_; clear xt3_
    have xs_ : Box w11 (w9.heap.size) #[.slice sA0 sn0 sc0, .slice sA1 sn1 sc1] 38 := (xs.alloc _).below b11 (by first | omega | (simp [size_drew]; done) | (simp [size_drew]; omega))
    clear xs; have xs := xs_; clear xs_
    have xm_ : Box w11 (w10.heap.size) #[.slice mA0 mn0 mc0, .slice mA1 mn1 mc1] 38 := (Box.new (g := w10.heap.size) _ #[.slice mA0 mn0 mc0, .slice mA1 mn1 mc1] 38 (by simp)).below b11 (by first | omega | (simp [size_drew]; done) | (simp [size_drew]; omega))
    have xm := xm_; clear xm_
    try simp only [World.size_alloc, World.size_setCell, size_drew] at rd
    have Vd := Lib.hid (Va.out.coA ec.out)
    generalize aCoS (p : Int) al aS aM c = dS at *
    generalize aCoM (p : Int) al aS aM c = dM at *
    have dSn : dS.length ≤ 1048576 := by have := Vd.out.len; have := HL.out; omega
    have dMn : dM.length ≤ 1048576 := by have := Vd.out.len; have := HL.out; omega
    have ka := Lib.hid Va.out.ok
    have ks := Lib.hid Vs.out.ok
    have km := Lib.hid Vm.out.ok
    have kd := Lib.hid Vd.out.ok
    have vs := Lib.hid Vs.out.2.1
    have fs := Lib.hid Vs.out.five
    have vm := Lib.hid Vm.out.2.1
    have fm := Lib.hid Vm.out.five
    have vd := Lib.hid Vd.out.2.1
    have fd := Lib.hid Vd.out.five
    have bxc := elm_bd ex.out ec.out
    have bx := elem_iff.1 ex.out
    have by_ := elem_iff.1 ey.out
    have bc := elem_iff.1 ec.out
    have hw0 : IntKind.i64.wrap (x + y) = x + y := by (rw [IntKind.wrap_i64]; (first | omega | (unfold wrap64; omega)))
    have ht0 : (x + y).tmod (p : Int) = (x + y) % (p : Int) := Int.tmod_eq_emod_of_nonneg (by omega)
    have hw1 : IntKind.i64.wrap (x * c) = x * c := by (rw [IntKind.wrap_i64]; (first | omega | (unfold wrap64; omega)))
    have ht1 : (x * c).tmod (p : Int) = (x * c) % (p : Int) := Int.tmod_eq_emod_of_nonneg (by omega)
    have hw2 : IntKind.i64.wrap (x + c) = x + c := by (rw [IntKind.wrap_i64]; (first | omega | (unfold wrap64; omega)))
    have ht2 : (x + c).tmod (p : Int) = (x + c) % (p : Int) := Int.tmod_eq_emod_of_nonneg (by omega)
    clear bxc bx by_ bc
    obtain ⟨cxk_0, cxk_1, fxk_0, fxk_1⟩ := xk.two
    have l_xk_0 : w1.heap.size < w11.heap.size := by omega
    have l_xk_1 : w1.heap.size < w11.heap.size + 1 := by omega
    go_wp2_with fail
    clear cxk_0 cxk_1 fxk_0 fxk_1 l_xk_0 l_xk_1
    generalize hw12 : World.alloc _ _ = w12
    have z12 : w11.heap.size + 1 ≤ w12.heap.size := by rw [← hw12]; simp
    have B12 : Below w.heap.size w w12 := by rw [← hw12]; repeat (with_reducible (first | assumption | exact Below.refl _ _ | refine Below.alloc ?_ (by first | omega | (simp; done) | (simp; omega)) _ | refine Below.setCell ?_ (by first | omega | (simp; done) | (simp; omega)) _ | refine Below.drew ?_ | refine below_drewN ?_ _))
    have hK : ∀ k, k < w11.heap.size → w12.heap[k]? = w11.heap[k]? := by
      intro k hk; rw [← hw12]
      repeat (first | rfl | refine (Below.heap_alloc _ _ _ (by first | omega | (simp; omega))).trans ?_)
    have rk_ := rk.keepBlock (w' := w12) (by omega) (fun k h1 h2 => hK k  (by have := rk.2.1; omega))
    clear rk; have rk := rk_; clear rk_
    have rq_ := rq.keepBlock (w' := w12) (by omega) (fun k h1 h2 => hK k  (by have := rq.2.1; omega))
    clear rq; have rq := rq_; clear rq_
    have ra_ := ra.keepBlock (w' := w12) (by omega) (fun k h1 h2 => hK k  (by have := ra.2.1; omega))
    clear ra; have ra := ra_; clear ra_
    have rb_ := rb.keepBlock (w' := w12) (by omega) (fun k h1 h2 => hK k  (by have := rb.2.1; omega))
    clear rb; have rb := rb_; clear rb_
    have rs_ := rs.keepBlock (w' := w12) (by omega) (fun k h1 h2 => hK k  (by have := rs.2.1; omega))
    clear rs; have rs := rs_; clear rs_
    have rm_ := rm.keepBlock (w' := w12) (by omega) (fun k h1 h2 => hK k  (by have := rm.2.1; omega))
    clear rm; have rm := rm_; clear rm_
    have rd_ := rd.keepBlock (w' := w12) (by omega) (fun k h1 h2 => hK k  (by have := rd.2.1; omega))
    clear rd; have rd := rd_; clear rd_
    have xk_ : Box w12 (w1.heap.size) #[.int .i64 (p : Int), .slice kA kn kc] 33 := (by rw [← hw12]; exact (xk.alloc _))
    clear xk; have xk := xk_; clear xk_
    have xt_ : Box w12 (w2.heap.size) #[.int .i64 (ts : Int), .int .i64 (ta : Int)] 40 := (by rw [← hw12]; exact (xt.alloc _))
    clear xt; have xt := xt_; clear xt_
    have xa_ : Box w12 (w7.heap.size) #[.slice aA0 an0 ac0, .slice aA1 an1 ac1] 38 := (by rw [← hw12]; exact (xa.alloc _))
    clear xa; have xa := xa_; clear xa_
    have xt2_ : Box w12 (w7.heap.size + 1) #[.int .i64 (ts : Int), .int .i64 t2] 40 := (by rw [← hw12]; exact (xt2.alloc _))
    clear xt2; have xt2 := xt2_; clear xt2_
    have xb_ : Box w12 (w8.heap.size) #[.slice bA0 bn0 bc0, .slice bA1 bn1 bc1] 38 := (by rw [← hw12]; exact (xb.alloc _))
    clear xb; have xb := xb_; clear xb_
    have xt3_ : Box w12 (w8.heap.size + 1) #[.int .i64 (ts : Int), .int .i64 t3] 40 := (by rw [← hw12]; exact (xt3.alloc _))
    clear xt3; have xt3 := xt3_; clear xt3_
    have xs_ : Box w12 (w9.heap.size) #[.slice sA0 sn0 sc0, .slice sA1 sn1 sc1] 38 := (by rw [← hw12]; exact (xs.alloc _))
    clear xs; have xs := xs_; clear xs_
    have xm_ : Box w12 (w10.heap.size) #[.slice mA0 mn0 mc0, .slice mA1 mn1 mc1] 38 := (by rw [← hw12]; exact (xm.alloc _))
    clear xm; have xm := xm_; clear xm_
    have xd_ : Box w12 (w11.heap.size) #[.slice dA0 dn0 dc0, .slice dA1 dn1 dc1] 38 := (by rw [← hw12]; exact (Box.new (g := w11.heap.size) _ #[.slice dA0 dn0 dc0, .slice dA1 dn1 dc1] 38 (by simp)))
    have xd := xd_; clear xd_
    clear hw12 hK
    obtain ⟨cxk_0, cxk_1, fxk_0, fxk_1⟩ := xk.two
    have l_xk_0 : w1.heap.size < w12.heap.size := by omega
    obtain ⟨cxa_0, cxa_1, fxa_0, fxa_1⟩ := xa.two
    have l_xa_0 : w7.heap.size < w12.heap.size := by omega
    obtain ⟨cxs_0, cxs_1, fxs_0, fxs_1⟩ := xs.two
    have l_xs_0 : w9.heap.size < w12.heap.size := by omega
    obtain ⟨cxm_0, cxm_1, fxm_0, fxm_1⟩ := xm.two
    have l_xm_0 : w10.heap.size < w12.heap.size := by omega
    obtain ⟨cxd_0, cxd_1, fxd_0, fxd_1⟩ := xd.two
    have l_xd_0 : w11.heap.size < w12.heap.size := by omega
    go_wp2_with fail
    clear cxk_0 cxk_1 fxk_0 fxk_1 l_xk_0 cxa_0 cxa_1 fxa_0 fxa_1 l_xa_0 cxs_0 cxs_1 fxs_0 fxs_1 l_xs_0 cxm_0 cxm_1 fxm_0 fxm_1 l_xm_0 cxd_0 cxd_1 fxd_0 fxd_1 l_xd_0
    (try simp only [List.append_eq, List.cons_append, List.nil_append])
    refine wp_region_held_drew (S := fun W => W.cell? ⟨w1.heap.size, 0, none⟩ = some (.int .i64 (p : Int)) ∧ W.cell? ⟨w1.heap.size, 1, none⟩ = some (.slice kA kn kc) ∧ W.cell? ⟨w7.heap.size, 0, none⟩ = some (.slice aA0 an0 ac0) ∧ W.cell? ⟨w7.heap.size, 1, none⟩ = some (.slice aA1 an1 ac1) ∧ W.cell? ⟨w9.heap.size, 0, none⟩ = some (.slice sA0 sn0 sc0) ∧ W.cell? ⟨w9.heap.size, 1, none⟩ = some (.slice sA1 sn1 sc1) ∧ W.cell? ⟨w10.heap.size, 0, none⟩ = some (.slice mA0 mn0 mc0) ∧ W.cell? ⟨w10.heap.size, 1, none⟩ = some (.slice mA1 mn1 mc1) ∧ W.cell? ⟨w11.heap.size, 0, none⟩ = some (.slice dA0 dn0 dc0) ∧ W.cell? ⟨w11.heap.size, 1, none⟩ = some (.slice dA1 dn1 dc1)) (by kernel_rfl) ⟨xk.drew.two.1, xk.drew.two.2.1, xa.drew.two.1, xa.drew.two.2.1, xs.drew.two.1, xs.drew.two.2.1, xm.drew.two.1, xm.drew.two.2.1, xd.drew.two.1, xd.drew.two.2.1⟩ (fun hS => ?_)
    (refine tk 0 hS ?_; (try simp only [Act.put, layA, layB, layC]))
    refine on 1 ?_
    refine callH (by go_simp; (first | done | with_reducible rfl | exact ⟨rfl, rfl⟩)) ?_
    go_at_call 36
    refine (iKeysOk_L (p : Int) (rk.drew).rd hal).mono ?_
    rintro e w13 ⟨rfl, b13⟩
    clear hS
    have z13 := Below.size b13
    (try simp only [World.size_alloc, World.size_setCell, size_drew] at z13)
    have B13 : Below w.heap.size w w13 := Below.t b13
    have rk_ := (rk.drew.below b13)
    clear rk; have rk := rk_; clear rk_
    have rq_ := (rq.drew.below b13)
    clear rq; have rq := rq_; clear rq_
    have ra_ := (ra.drew.below b13)
    clear ra; have ra := ra_; clear ra_
    have rb_ := (rb.drew.below b13)
    clear rb; have rb := rb_; clear rb_
    have rs_ := (rs.drew.below b13)
    clear rs; have rs := rs_; clear rs_
    have rm_ := (rm.drew.below b13)
    clear rm; have rm := rm_; clear rm_
    have rd_ := (rd.drew.below b13)
    clear rd; have rd := rd_; clear rd_
    have xk_ : Box w13 (w1.heap.size) #[.int .i64 (p : Int), .slice kA kn kc] 33 := (Box.b xk.drew b13)
    clear xk; have xk := xk_; clear xk_
    have xt_ : Box w13 (w2.heap.size) #[.int .i64 (ts : Int), .int .i64 (ta : Int)] 40 := (Box.b xt.drew b13)
    clear xt; have xt := xt_; clear xt_
    have xa_ : Box w13 (w7.heap.size) #[.slice aA0 an0 ac0, .slice aA1 an1 ac1] 38 := (Box.b xa.drew b13)
    clear xa; have xa := xa_; clear xa_
    have xt2_ : Box w13 (w7.heap.size + 1) #[.int .i64 (ts : Int), .int .i64 t2] 40 := (Box.b xt2.drew b13)
    clear xt2; have xt2 := xt2_; clear xt2_
    have xb_ : Box w13 (w8.heap.size) #[.slice bA0 bn0 bc0, .slice bA1 bn1 bc1] 38 := (Box.b xb.drew b13)
    clear xb; have xb := xb_; clear xb_
    have xt3_ : Box w13 (w8.heap.size + 1) #[.int .i64 (ts : Int), .int .i64 t3] 40 := (Box.b xt3.drew b13)
    clear xt3; have xt3 := xt3_; clear xt3_
    have xs_ : Box w13 (w9.heap.size) #[.slice sA0 sn0 sc0, .slice sA1 sn1 sc1] 38 := (Box.b xs.drew b13)
    clear xs; have xs := xs_; clear xs_
    have xm_ : Box w13 (w10.heap.size) #[.slice mA0 mn0 mc0, .slice mA1 mn1 mc1] 38 := (Box.b xm.drew b13)
    clear xm; have xm := xm_; clear xm_
    have xd_ : Box w13 (w11.heap.size) #[.slice dA0 dn0 dc0, .slice dA1 dn1 dc1] 38 := (Box.b xd.drew b13)
    clear xd; have xd := xd_; clear xd_
    refine ⟨.bool true, by rw [HK.out], ⟨xk.two.1, xk.two.2.1, xa.two.1, xa.two.2.1, xs.two.1, xs.two.2.1, xm.two.1, xm.two.2.1, xd.two.1, xd.two.2.1⟩, fun hS => ?_⟩
    (try simp only [Act.put, layA, layB, layC])
    (refine tk 2 hS ?_; (try simp only [Act.put, layA, layB, layC]))
    (refine tk 3 hS ?_; (try simp only [Act.put, layA, layB, layC]))
    (refine tk 4 hS ?_; (try simp only [Act.put, layA, layB, layC]))
    refine on 5 ?_
    refine callH (by go_simp; (first | done | with_reducible rfl | exact ⟨rfl, rfl⟩)) ?_
    go_at_call 45
    refine (iAuthOk_L (p : Int) (rk).rd hal (ra).rd aSn aMn).mono ?_
    rintro e w14 ⟨rfl, b14⟩
    clear hS
    have z14 := Below.size b14
    (try simp only [World.size_alloc, World.size_setCell, size_drew] at z14)
    have B14 : Below w.heap.size w w14 := Below.t b14
    have rk_ := (rk.below b14)
    clear rk; have rk := rk_; clear rk_
    have rq_ := (rq.below b14)
    clear rq; have rq := rq_; clear rq_
    have ra_ := (ra.below b14)
    clear ra; have ra := ra_; clear ra_
    have rb_ := (rb.below b14)
    clear rb; have rb := rb_; clear rb_
    have rs_ := (rs.below b14)
    clear rs; have rs := rs_; clear rs_
    have rm_ := (rm.below b14)
    clear rm; have rm := rm_; clear rm_
    have rd_ := (rd.below b14)
    clear rd; have rd := rd_; clear rd_
    have xk_ : Box w14 (w1.heap.size) #[.int .i64 (p : Int), .slice kA kn kc] 33 := (Box.b xk b14)
    clear xk; have xk := xk_; clear xk_
    have xt_ : Box w14 (w2.heap.size) #[.int .i64 (ts : Int), .int .i64 (ta : Int)] 40 := (Box.b xt b14)
    clear xt; have xt := xt_; clear xt_
    have xa_ : Box w14 (w7.heap.size) #[.slice aA0 an0 ac0, .slice aA1 an1 ac1] 38 := (Box.b xa b14)
    clear xa; have xa := xa_; clear xa_
    have xt2_ : Box w14 (w7.heap.size + 1) #[.int .i64 (ts : Int), .int .i64 t2] 40 := (Box.b xt2 b14)
    clear xt2; have xt2 := xt2_; clear xt2_
    have xb_ : Box w14 (w8.heap.size) #[.slice bA0 bn0 bc0, .slice bA1 bn1 bc1] 38 := (Box.b xb b14)
    clear xb; have xb := xb_; clear xb_
    have xt3_ : Box w14 (w8.heap.size + 1) #[.int .i64 (ts : Int), .int .i64 t3] 40 := (Box.b xt3 b14)
    clear xt3; have xt3 := xt3_; clear xt3_
    have xs_ : Box w14 (w9.heap.size) #[.slice sA0 sn0 sc0, .slice sA1 sn1 sc1] 38 := (Box.b xs b14)
    clear xs; have xs := xs_; clear xs_
    have xm_ : Box w14 (w10.heap.size) #[.slice mA0 mn0 mc0, .slice mA1 mn1 mc1] 38 := (Box.b xm b14)
    clear xm; have xm := xm_; clear xm_
    have xd_ : Box w14 (w11.heap.size) #[.slice dA0 dn0 dc0, .slice dA1 dn1 dc1] 38 := (Box.b xd b14)
    clear xd; have xd := xd_; clear xd_
    refine ⟨.bool true, by rw [ka.out], ⟨xk.two.1, xk.two.2.1, xa.two.1, xa.two.2.1, xs.two.1, xs.two.2.1, xm.two.1, xm.two.2.1, xd.two.1, xd.two.2.1⟩, fun hS => ?_⟩
    (try simp only [Act.put, layA, layB, layC])
    (refine tk 6 hS ?_; (try simp only [Act.put, layA, layB, layC]))
    (refine tk 7 hS ?_; (try simp only [Act.put, layA, layB, layC]))
    (refine tk 8 hS ?_; (try simp only [Act.put, layA, layB, layC]))
    (refine tk 9 hS ?_; (try simp only [Act.put, layA, layB, layC]))
    refine on 10 ?_
    refine callH (by go_simp; (first | done | with_reducible rfl | exact ⟨rfl, rfl⟩)) ?_
    go_at_call 45
    refine (iAuthOk_L (p : Int) (rk).rd hal (rs).rd sSn sMn).mono ?_
    rintro e w15 ⟨rfl, b15⟩
    clear hS
    have z15 := Below.size b15
    (try simp only [World.size_alloc, World.size_setCell, size_drew] at z15)
    have B15 : Below w.heap.size w w15 := Below.t b15
    have rk_ := (rk.below b15)
    clear rk; have rk := rk_; clear rk_
    have rq_ := (rq.below b15)
    clear rq; have rq := rq_; clear rq_
    have ra_ := (ra.below b15)
    clear ra; have ra := ra_; clear ra_
    have rb_ := (rb.below b15)
    clear rb; have rb := rb_; clear rb_
    have rs_ := (rs.below b15)
    clear rs; have rs := rs_; clear rs_
    have rm_ := (rm.below b15)
    clear rm; have rm := rm_; clear rm_
    have rd_ := (rd.below b15)
    clear rd; have rd := rd_; clear rd_
    have xk_ : Box w15 (w1.heap.size) #[.int .i64 (p : Int), .slice kA kn kc] 33 := (Box.b xk b15)
    clear xk; have xk := xk_; clear xk_
    have xt_ : Box w15 (w2.heap.size) #[.int .i64 (ts : Int), .int .i64 (ta : Int)] 40 := (Box.b xt b15)
    clear xt; have xt := xt_; clear xt_
    have xa_ : Box w15 (w7.heap.size) #[.slice aA0 an0 ac0, .slice aA1 an1 ac1] 38 := (Box.b xa b15)
    clear xa; have xa := xa_; clear xa_
    have xt2_ : Box w15 (w7.heap.size + 1) #[.int .i64 (ts : Int), .int .i64 t2] 40 := (Box.b xt2 b15)
    clear xt2; have xt2 := xt2_; clear xt2_
    have xb_ : Box w15 (w8.heap.size) #[.slice bA0 bn0 bc0, .slice bA1 bn1 bc1] 38 := (Box.b xb b15)
    clear xb; have xb := xb_; clear xb_
    have xt3_ : Box w15 (w8.heap.size + 1) #[.int .i64 (ts : Int), .int .i64 t3] 40 := (Box.b xt3 b15)
    clear xt3; have xt3 := xt3_; clear xt3_
    have xs_ : Box w15 (w9.heap.size) #[.slice sA0 sn0 sc0, .slice sA1 sn1 sc1] 38 := (Box.b xs b15)
    clear xs; have xs := xs_; clear xs_
    have xm_ : Box w15 (w10.heap.size) #[.slice mA0 mn0 mc0, .slice mA1 mn1 mc1] 38 := (Box.b xm b15)
    clear xm; have xm := xm_; clear xm_
    have xd_ : Box w15 (w11.heap.size) #[.slice dA0 dn0 dc0, .slice dA1 dn1 dc1] 38 := (Box.b xd b15)
    clear xd; have xd := xd_; clear xd_
    refine ⟨.bool true, by rw [ks.out], ⟨xk.two.1, xk.two.2.1, xa.two.1, xa.two.2.1, xs.two.1, xs.two.2.1, xm.two.1, xm.two.2.1, xd.two.1, xd.two.2.1⟩, fun hS => ?_⟩
    (try simp only [Act.put, layA, layB, layC])
    (refine tk 11 hS ?_; (try simp only [Act.put, layA, layB, layC]))
    (refine tk 12 hS ?_; (try simp only [Act.put, layA, layB, layC]))
    (refine tk 13 hS ?_; (try simp only [Act.put, layA, layB, layC]))
    (refine tk 14 hS ?_; (try simp only [Act.put, layA, layB, layC]))
    refine on 15 ?_
    refine callH (by go_simp; (first | done | with_reducible rfl | exact ⟨rfl, rfl⟩)) ?_
    go_at_call 45
    refine (iAuthOk_L (p : Int) (rk).rd hal (rm).rd mSn mMn).mono ?_
    rintro e w16 ⟨rfl, b16⟩
    clear hS
    have z16 := Below.size b16
    (try simp only [World.size_alloc, World.size_setCell, size_drew] at z16)
    have B16 : Below w.heap.size w w16 := Below.t b16
    have rk_ := (rk.below b16)
    clear rk; have rk := rk_; clear rk_
    have rq_ := (rq.below b16)
    clear rq; have rq := rq_; clear rq_
    have ra_ := (ra.below b16)
    clear ra; have ra := ra_; clear ra_
    have rb_ := (rb.below b16)
    clear rb; have rb := rb_; clear rb_
    have rs_ := (rs.below b16)
    clear rs; have rs := rs_; clear rs_
    have rm_ := (rm.below b16)
    clear rm; have rm := rm_; clear rm_
    have rd_ := (rd.below b16)
    clear rd; have rd := rd_; clear rd_
    have xk_ : Box w16 (w1.heap.size) #[.int .i64 (p : Int), .slice kA kn kc] 33 := (Box.b xk b16)
    clear xk; have xk := xk_; clear xk_
    have xt_ : Box w16 (w2.heap.size) #[.int .i64 (ts : Int), .int .i64 (ta : Int)] 40 := (Box.b xt b16)
    clear xt; have xt := xt_; clear xt_
    have xa_ : Box w16 (w7.heap.size) #[.slice aA0 an0 ac0, .slice aA1 an1 ac1] 38 := (Box.b xa b16)
    clear xa; have xa := xa_; clear xa_
    have xt2_ : Box w16 (w7.heap.size + 1) #[.int .i64 (ts : Int), .int .i64 t2] 40 := (Box.b xt2 b16)
    clear xt2; have xt2 := xt2_; clear xt2_
    have xb_ : Box w16 (w8.heap.size) #[.slice bA0 bn0 bc0, .slice bA1 bn1 bc1] 38 := (Box.b xb b16)
    clear xb; have xb := xb_; clear xb_
    have xt3_ : Box w16 (w8.heap.size + 1) #[.int .i64 (ts : Int), .int .i64 t3] 40 := (Box.b xt3 b16)
    clear xt3; have xt3 := xt3_; clear xt3_
    have xs_ : Box w16 (w9.heap.size) #[.slice sA0 sn0 sc0, .slice sA1 sn1 sc1] 38 := (Box.b xs b16)
    clear xs; have xs := xs_; clear xs_
    have xm_ : Box w16 (w10.heap.size) #[.slice mA0 mn0 mc0, .slice mA1 mn1 mc1] 38 := (Box.b xm b16)
    clear xm; have xm := xm_; clear xm_
    have xd_ : Box w16 (w11.heap.size) #[.slice dA0 dn0 dc0, .slice dA1 dn1 dc1] 38 := (Box.b xd b16)
    clear xd; have xd := xd_; clear xd_
    refine ⟨.bool true, by rw [km.out], ⟨xk.two.1, xk.two.2.1, xa.two.1, xa.two.2.1, xs.two.1, xs.two.2.1, xm.two.1, xm.two.2.1, xd.two.1, xd.two.2.1⟩, fun hS => ?_⟩
    (try simp only [Act.put, layA, layB, layC])
    (refine tk 16 hS ?_; (try simp only [Act.put, layA, layB, layC]))
    (refine tk 17 hS ?_; (try simp only [Act.put, layA, layB, layC]))
    (refine tk 18 hS ?_; (try simp only [Act.put, layA, layB, layC]))
    (refine tk 19 hS ?_; (try simp only [Act.put, layA, layB, layC]))
    refine on 20 ?_
    refine callH (by go_simp; (first | done | with_reducible rfl | exact ⟨rfl, rfl⟩)) ?_
    go_at_call 45
    refine (iAuthOk_L (p : Int) (rk).rd hal (rd).rd dSn dMn).mono ?_
    rintro e w17 ⟨rfl, b17⟩
    clear hS
    have z17 := Below.size b17
    (try simp only [World.size_alloc, World.size_setCell, size_drew] at z17)
    have B17 : Below w.heap.size w w17 := Below.t b17
    have rk_ := (rk.below b17)
    clear rk; have rk := rk_; clear rk_
    have rq_ := (rq.below b17)
    clear rq; have rq := rq_; clear rq_
    have ra_ := (ra.below b17)
    clear ra; have ra := ra_; clear ra_
    have rb_ := (rb.below b17)
    clear rb; have rb := rb_; clear rb_
    have rs_ := (rs.below b17)
    clear rs; have rs := rs_; clear rs_
    have rm_ := (rm.below b17)
    clear rm; have rm := rm_; clear rm_
    have rd_ := (rd.below b17)
    clear rd; have rd := rd_; clear rd_
    have xk_ : Box w17 (w1.heap.size) #[.int .i64 (p : Int), .slice kA kn kc] 33 := (Box.b xk b17)
    clear xk; have xk := xk_; clear xk_
    have xt_ : Box w17 (w2.heap.size) #[.int .i64 (ts : Int), .int .i64 (ta : Int)] 40 := (Box.b xt b17)
    clear xt; have xt := xt_; clear xt_
    have xa_ : Box w17 (w7.heap.size) #[.slice aA0 an0 ac0, .slice aA1 an1 ac1] 38 := (Box.b xa b17)
    clear xa; have xa := xa_; clear xa_
    have xt2_ : Box w17 (w7.heap.size + 1) #[.int .i64 (ts : Int), .int .i64 t2] 40 := (Box.b xt2 b17)
    clear xt2; have xt2 := xt2_; clear xt2_
    have xb_ : Box w17 (w8.heap.size) #[.slice bA0 bn0 bc0, .slice bA1 bn1 bc1] 38 := (Box.b xb b17)
    clear xb; have xb := xb_; clear xb_
    have xt3_ : Box w17 (w8.heap.size + 1) #[.int .i64 (ts : Int), .int .i64 t3] 40 := (Box.b xt3 b17)
    clear xt3; have xt3 := xt3_; clear xt3_
    have xs_ : Box w17 (w9.heap.size) #[.slice sA0 sn0 sc0, .slice sA1 sn1 sc1] 38 := (Box.b xs b17)
    clear xs; have xs := xs_; clear xs_
    have xm_ : Box w17 (w10.heap.size) #[.slice mA0 mn0 mc0, .slice mA1 mn1 mc1] 38 := (Box.b xm b17)
    clear xm; have xm := xm_; clear xm_
    have xd_ : Box w17 (w11.heap.size) #[.slice dA0 dn0 dc0, .slice dA1 dn1 dc1] 38 := (Box.b xd b17)
    clear xd; have xd := xd_; clear xd_
    refine ⟨.bool true, by rw [kd.out], ⟨xk.two.1, xk.two.2.1, xa.two.1, xa.two.2.1, xs.two.1, xs.two.2.1, xm.two.1, xm.two.2.1, xd.two.1, xd.two.2.1⟩, fun hS => ?_⟩
    (try simp only [Act.put, layA, layB, layC])
    (refine tk 21 hS ?_; (try simp only [Act.put, layA, layB, layC]))
    (refine tk 22 hS ?_; (try simp only [Act.put, layA, layB, layC]))
    (refine tk 23 hS ?_; (try simp only [Act.put, layA, layB, layC]))
    (refine tk 24 hS ?_; (try simp only [Act.put, layA, layB, layC]))
    (refine tk 25 hS ?_; (try simp only [Act.put, layA, layB, layC]))
    (refine tk 26 hS ?_; (try simp only [Act.put, layA, layB, layC]))
    (refine tk 28 hS ?_; (try simp only [Act.put, layA, layB, layC]))
    (refine tk 29 hS ?_; (try simp only [Act.put, layA, layB, layC]))
    (refine tk 30 hS ?_; (try simp only [Act.put, layA, layB, layC]))
    (refine tk 31 hS ?_; (try simp only [Act.put, layA, layB, layC]))
    (refine tk 32 hS ?_; (try simp only [Act.put, layA, layB, layC]))
    (refine tk 33 hS ?_; (try simp only [Act.put, layA, layB, layC]))
    refine on 27 ?_
    refine callH (by go_simp; (first | done | with_reducible rfl | exact ⟨rfl, rfl⟩)) ?_
    go_at_call 79
    refine (sOpenAdd_L (p : Int) (RdL.sub (ls2 := [(.slice sA0 sn0 sc0, .ints sS)]) (rs).rd (by simp)) fs.out).mono ?_
    rintro e w_ ⟨rfl, rfl⟩
    refine ⟨.int .i64 ((x + y) % (p : Int)), by rw [vs.out], hS, fun hS => ?_⟩
    (try simp only [Act.put, layA, layB, layC])
    (refine tk 34 hS ?_; (try simp only [Act.put, layA, layB, layC]))
    (refine tk 35 hS ?_; (try simp only [Act.put, layA, layB, layC]))
    (refine tk 36 hS ?_; (try simp only [Act.put, layA, layB, layC]))
    (refine tk 37 hS ?_; (try simp only [Act.put, layA, layB, layC]))
    (refine tk 38 hS ?_; (try simp only [Act.put, layA, layB, layC]))
    (refine tk 39 hS ?_; (try simp only [Act.put, layA, layB, layC]))
    (refine tk 40 hS ?_; (try simp only [Act.put, layA, layB, layC]))
    (refine tk 42 hS ?_; (try simp only [Act.put, layA, layB, layC]))
    (refine tk 43 hS ?_; (try simp only [Act.put, layA, layB, layC]))
    (refine tk 44 hS ?_; (try simp only [Act.put, layA, layB, layC]))
    (refine tk 45 hS ?_; (try simp only [Act.put, layA, layB, layC]))
    (refine tk 46 hS ?_; (try simp only [Act.put, layA, layB, layC]))
    (refine tk 47 hS ?_; (try simp only [Act.put, layA, layB, layC]))
    refine on 41 ?_
    refine callH (by go_simp; (first | done | with_reducible rfl | exact ⟨rfl, rfl⟩)) ?_
    go_at_call 79
    refine (sOpenAdd_L (p : Int) (RdL.sub (ls2 := [(.slice mA0 mn0 mc0, .ints mS)]) (rm).rd (by simp)) fm.out).mono ?_
    rintro e w_ ⟨rfl, rfl⟩
    refine ⟨.int .i64 ((x * c) % (p : Int)), by rw [vm.out], hS, fun hS => ?_⟩
    (try simp only [Act.put, layA, layB, layC])
    (refine tk 48 hS ?_; (try simp only [Act.put, layA, layB, layC]))
    (refine tk 49 hS ?_; (try simp only [Act.put, layA, layB, layC]))
    (refine tk 50 hS ?_; (try simp only [Act.put, layA, layB, layC]))
    (refine tk 51 hS ?_; (try simp only [Act.put, layA, layB, layC]))
    (refine tk 52 hS ?_; (try simp only [Act.put, layA, layB, layC]))
    (refine tk 53 hS ?_; (try simp only [Act.put, layA, layB, layC]))
    (refine tk 54 hS ?_; (try simp only [Act.put, layA, layB, layC]))
    (refine tk 56 hS ?_; (try simp only [Act.put, layA, layB, layC]))
    (refine tk 57 hS ?_; (try simp only [Act.put, layA, layB, layC]))
    (refine tk 58 hS ?_; (try simp only [Act.put, layA, layB, layC]))
    (refine tk 59 hS ?_; (try simp only [Act.put, layA, layB, layC]))
    (refine tk 60 hS ?_; (try simp only [Act.put, layA, layB, layC]))
    (refine tk 61 hS ?_; (try simp only [Act.put, layA, layB, layC]))
    refine on 55 ?_
    refine callH (by go_simp; (first | done | with_reducible rfl | exact ⟨rfl, rfl⟩)) ?_
    go_at_call 79
    refine (sOpenAdd_L (p : Int) (RdL.sub (ls2 := [(.slice dA0 dn0 dc0, .ints dS)]) (rd).rd (by simp)) fd.out).mono ?_
    rintro e w_ ⟨rfl, rfl⟩
    refine ⟨.int .i64 ((x + c) % (p : Int)), by rw [vd.out], hS, fun hS => ?_⟩
    (try simp only [Act.put, layA, layB, layC])
    (refine tk 62 hS ?_; (try simp only [Act.put, layA, layB, layC]))
    (refine tk 63 hS ?_; (try simp only [Act.put, layA, layB, layC]))
    (refine tk 64 hS ?_; (try simp only [Act.put, layA, layB, layC]))
    clear hS
    refine wpAnyH_done (by kernel_rfl) ?_ _
    go_wp2
    go_ret
    exact ⟨ret_bool (by simp), by repeat (with_reducible (first | assumption | exact Below.refl _ _ | refine Below.alloc ?_ (by first | omega | (simp; done) | (simp; omega)) _ | refine Below.setCell ?_ (by first | omega | (simp; done) | (simp; omega)) _ | refine Below.drew ?_ | refine below_drewN ?_ _))⟩
end Go.Proofs.Ytllnnbmgdbinnaa

/- The walk of the law FnDoubled. Printed by laws3.py. -/
import Derived.Test.YtllnnbmgdbinnaaDrawK
import Derived.Test.YtllnnbmgdbinnaaAuthN
import Derived.Test.YtllnnbmgdbinnaaMac3
import Derived.Test.YtllnnbmgdbinnaaTriLaw
import Derived.Test.YtllnnbmgdbinnaaSameB
import Derived.Test.YtllnnbmgdbinnaaOpenS
namespace Go.Proofs.Ytllnnbmgdbinnaa
set_option linter.unusedSimpArgs false
set_option linter.unusedVariables false
open Go.RowKit
set_option maxRecDepth 100000 in
set_option maxHeartbeats 10000000 in
theorem walk_FnDoubled (A : Option Addr) (n c : Nat) (w : World) (hx : Bts0 w A n) :
    Calls Try.prog 20 #[.slice A n c] w fun e w' => e = .returned (.bool true) ∧ Below w.heap.size w w' := by
  by_cases hn : (1048576 : Int) < n
  · go_enter Try.func20, Try.ntmps20
    go_wp2_with fail
    refine (big_any _ _ _ _).mono ?_
    rintro e w1 ⟨rfl, rfl⟩
    go_wp2
    go_ret
    exact ⟨rfl, Below.refl _ _⟩
  · have hB0 : Bts w A n := ⟨by omega, hx.2⟩
    go_enter Try.func20, Try.ntmps20
    go_wp2_with fail
    refine (big_any _ _ _ _).mono ?_
    rintro e w_ ⟨rfl, rfl⟩
    go_wp2_with fail
    refine (DrawKeys_any n c A _ hB0).mono ?_
    rintro e w1 ⟨p, al, kA, kn, kc, hk, rfl, rk, b1⟩
    have B1 := b1
    have z1 := b1.size
    have HK := Lib.hid hk
    have HF := Lib.hid (keys_fOk hk)
    have HL := Lib.hid (keysOk_iff.1 hk)
    obtain ⟨hp1, hp2⟩ := fOk_bd HF.out
    have hal : al.length ≤ 1048576 := by have := HL.out; omega
    have hp0 : ¬ p = 0 := by omega
    clear b1 hk
    go_wp2_with fail
    refine (DrawPlaces_any n c A _ (hB0.keep fun _ a _ ha => (show Below w.heap.size w _ from by repeat (with_reducible (first | assumption | exact Below.refl _ _ | refine Below.alloc ?_ (by first | omega | (simp; done) | (simp; omega)) _ | refine Below.setCell ?_ (by first | omega | (simp; done) | (simp; omega)) _ | refine Below.drew ?_ | refine below_drewN ?_ _))).block _ ha)).mono ?_
    rintro e w2 ⟨v, l, rfl, hl, ha, ho, b2⟩
    have z2 := b2.size
    try simp only [World.size_alloc, World.size_setCell, size_drew] at z2
    have B2 : Below w.heap.size w w2 := Below.t b2
    have rk_ := (rk.alloc _).below b2
    clear rk; have rk := rk_; clear rk_
    have xk_ : Box w2 (w1.heap.size) #[.int .i64 (p : Int), .slice kA kn kc] 33 := (Box.new (g := w1.heap.size) _ #[.int .i64 (p : Int), .slice kA kn kc] 33 (by simp)).below b2 (by first | omega | (simp [size_drew]; done) | (simp [size_drew]; omega))
    have xk := xk_; clear xk_
    obtain ⟨Bp, dp, rfl, hI⟩ := ho.reads
    rw [hl] at hI ho ⊢
    obtain ⟨gp, op, rfl, hgp, _⟩ := hI.block (by omega)
    have rq : OwnL w2 (w1.heap.size + 1) w2.heap.size [(.slice (some ⟨gp, op, none⟩) 12 dp, .ints l)] := OwnL.one (d := .ints l) (show OwnD _ _ _ (.ints l) by unfold OwnD; (first | exact ho | (simp only [World.size_alloc] at ho; exact ho))) (by omega)
    clear hI ho
    have HA := Lib.hid ha
    have Hl := Lib.hid hl
    clear ha hl
    obtain ⟨q0l, q0h⟩ := HA.out (nth l 0) (by rw [nth_lt (by rw [Hl.out]; omega)]; exact List.getElem_mem _)
    have ht0 : (nth l 0).tmod (p : Int) = nth l 0 % (p : Int) := Int.tmod_eq_emod_of_nonneg q0l
    have ex : Hid (elem (p : Int) (nth l 0 % (p : Int)) = true) := elem_mod HF.out _
    have hll := Hl.out
    obtain ⟨cxk_0, cxk_1, fxk_0, fxk_1⟩ := xk.two
    have l_xk_0 : w1.heap.size < w2.heap.size := by omega
    go_wp2_with fail
    clear cxk_0 cxk_1 fxk_0 fxk_1 l_xk_0
    refine wp_region_M [15, 16] (w2.heap.size) 17 (S := fun W => Below w.heap.size w W ∧ Below w2.heap.size w2 W ∧ W.cell? ⟨w1.heap.size, 0, none⟩ = some (.int .i64 (p : Int)) ∧ W.cell? ⟨w1.heap.size, 1, none⟩ = some (.slice kA kn kc) ∧ W.cell? ⟨gp, op, none⟩ = some (.int .i64 (nth l 0))) (by kernel_rfl) (by rfl) (fun W hW => ⟨Below.trans (b := _) (by repeat (with_reducible (first | assumption | exact Below.refl _ _ | refine Below.alloc ?_ (by first | omega | (simp; done) | (simp; omega)) _ | refine Below.setCell ?_ (by first | omega | (simp; done) | (simp; omega)) _ | refine Below.drew ?_ | refine below_drewN ?_ _))) (Below.mono hW (by first | omega | (simp [size_drew]; done) | (simp [size_drew]; omega))), Below.trans (b := _) (by repeat (with_reducible (first | assumption | exact Below.refl _ _ | refine Below.alloc ?_ (by first | omega | (simp; done) | (simp; omega)) _ | refine Below.setCell ?_ (by first | omega | (simp; done) | (simp; omega)) _ | refine Below.drew ?_ | refine below_drewN ?_ _))) (Below.mono hW (by first | omega | (simp [size_drew]; done) | (simp [size_drew]; omega))), (Box.below xk.drew hW (by first | omega | (simp [size_drew]; done) | (simp [size_drew]; omega))).two.1, (Box.below xk.drew hW (by first | omega | (simp [size_drew]; done) | (simp [size_drew]; omega))).two.2.1, (OwnL.cellAt ((rq.drew).below hW) 0 (by omega))⟩) (by first | omega | (simp [size_drew]; done) | (simp [size_drew]; omega)) (fun hS hG => ?_)
    (try dsimp only at hS)
    refine pendM 13 5 #[.slice none 0 0, .slice none 0 0] 38 (by simp only [List.getElem?_toArray, List.getElem?_cons_succ, List.getElem?_cons_zero] <;> rfl) (by kernel_rfl) (by exact fun _ _ _ _ h => h) (by intro a W; unfold ptr; go_simp; (first | done | rfl)) hG ?_
    refine pendM 14 6 #[.int .i64 0, .int .i64 0] 40 (by simp only [List.getElem?_toArray, List.getElem?_cons_succ, List.getElem?_cons_zero] <;> rfl) (by kernel_rfl) (by exact fun _ _ _ _ h => h) (by intro a W; unfold ptr; go_simp; (first | done | rfl)) hG ?_
    (refine tkM 0 hG hS ?_; (try simp only [Act.put, layA, layB, layC]))
    (refine tkM 1 hG hS ?_; (try simp only [Act.put, layA, layB, layC]))
    (refine tkM 2 hG hS ?_; (try simp only [Act.put, layA, layB, layC]))
    (refine tkM 3 hG hS ?_; (try simp only [Act.put, layA, layB, layC]))
    (refine tkM 4 hG hS ?_; (try simp only [Act.put, layA, layB, layC]))
    (refine tkM 5 hG hS ?_; (try simp only [Act.put, layA, layB, layC]))
    (refine tkM 6 hG hS ?_; (try simp only [Act.put, layA, layB, layC]))
    (refine tkM 7 hG hS ?_; (try simp only [Act.put, layA, layB, layC]))
    refine callM hG (i := 8) (by simp only [List.getElem?_toArray, List.getElem?_cons_succ, List.getElem?_cons_zero] <;> rfl) (by kernel_rfl) (by rfl) (by rfl) (by intro W hW; have hSw := hS W hW; (try dsimp only at hSw); go_simp; (first | done | with_reducible rfl | exact ⟨rfl, rfl⟩)) ?_
    intro w3 b3
    have B3 : Below w.heap.size w w3 := (hS w3 b3).1
    have z3 := Below.size b3
    (try simp only [World.size_alloc, World.size_setCell, size_drew] at z3)
    have rk_ := (rk.drew.below b3)
    clear rk; have rk := rk_; clear rk_
    have rq_ := (rq.drew.below b3)
    clear rq; have rq := rq_; clear rq_
    have xk_ : Box w3 (w1.heap.size) #[.int .i64 (p : Int), .slice kA kn kc] 33 := (Box.b xk.drew b3)
    clear xk; have xk := xk_; clear xk_
    clear hS hG
    go_at_call 71
    refine (DrawTape_any n c A _ (hB0.keep fun _ a _ ha => (show Below w.heap.size w _ from by repeat (with_reducible (first | assumption | exact Below.refl _ _ | refine Below.alloc ?_ (by first | omega | (simp; done) | (simp; omega)) _ | refine Below.setCell ?_ (by first | omega | (simp; done) | (simp; omega)) _ | refine Below.drew ?_ | refine below_drewN ?_ _))).block _ ha)).mono ?_
    rintro e w4 ⟨ts, ta, hts, hta, rfl, b4⟩
    refine ⟨_, rfl, b4, fun hG => ?_⟩
    have z4 := Below.size b4
    have B4 : Below w.heap.size w w4 := Below.t b4
    have rk_ := (rk.below b4)
    clear rk; have rk := rk_; clear rk_
    have rq_ := (rq.below b4)
    clear rq; have rq := rq_; clear rq_
    have xk_ : Box w4 (w1.heap.size) #[.int .i64 (p : Int), .slice kA kn kc] 33 := (Box.b xk b4)
    clear xk; have xk := xk_; clear xk_
    (try simp only [Act.put, layA, layB, layC])
    have hS : ∀ W, Later w4 W → (Below w.heap.size w W ∧ Below w4.heap.size w4 W ∧ W.cell? ⟨w1.heap.size, 0, none⟩ = some (.int .i64 (p : Int)) ∧ W.cell? ⟨w1.heap.size, 1, none⟩ = some (.slice kA kn kc) ∧ W.cell? ⟨gp, op, none⟩ = some (.int .i64 (nth l 0))) := fun W hW => ⟨Below.trans (b := _) (by repeat (with_reducible (first | assumption | exact Below.refl _ _ | refine Below.alloc ?_ (by first | omega | (simp; done) | (simp; omega)) _ | refine Below.setCell ?_ (by first | omega | (simp; done) | (simp; omega)) _ | refine Below.drew ?_ | refine below_drewN ?_ _))) (Below.mono hW (by first | omega | (simp [size_drew]; done) | (simp [size_drew]; omega))), Below.trans (b := _) (by repeat (with_reducible (first | assumption | exact Below.refl _ _ | refine Below.alloc ?_ (by first | omega | (simp; done) | (simp; omega)) _ | refine Below.setCell ?_ (by first | omega | (simp; done) | (simp; omega)) _ | refine Below.drew ?_ | refine below_drewN ?_ _))) (Below.mono hW (by first | omega | (simp [size_drew]; done) | (simp [size_drew]; omega))), (Box.below xk hW (by first | omega | (simp [size_drew]; done) | (simp [size_drew]; omega))).two.1, (Box.below xk hW (by first | omega | (simp [size_drew]; done) | (simp [size_drew]; omega))).two.2.1, (OwnL.cellAt ((rq).below hW) 0 (by omega))⟩
    refine callM hG (i := 9) (by simp only [List.getElem?_toArray, List.getElem?_cons_succ, List.getElem?_cons_zero] <;> rfl) (by kernel_rfl) (by rfl) (by rfl) (by intro W hW; have hSw := hS W hW; (try dsimp only at hSw); go_simp; (first | done | with_reducible rfl | exact ⟨rfl, rfl⟩)) ?_
    intro w5 b5
    have B5 : Below w.heap.size w w5 := (hS w5 b5).1
    have z5 := Below.size b5
    (try simp only [World.size_alloc, World.size_setCell, size_drew] at z5)
    have rk_ := (rk.below b5)
    clear rk; have rk := rk_; clear rk_
    have rq_ := (rq.below b5)
    clear rq; have rq := rq_; clear rq_
    have xk_ : Box w5 (w1.heap.size) #[.int .i64 (p : Int), .slice kA kn kc] 33 := (Box.b xk b5)
    clear xk; have xk := xk_; clear xk_
    clear hS hG
    go_at_call 38
    refine (iAuthNew_L (p : Int) (rk).rd hal (nth l 0 % (p : Int)) (ts : Int) (ta : Int)).mono ?_
    rintro e w6 ⟨aA0, an0, ac0, aA1, an1, ac1, rfl, ra, b6⟩
    refine ⟨_, rfl, b6, fun hG => ?_⟩
    have z6 := Below.size b6
    have B6 : Below w.heap.size w w6 := Below.t b6
    have rk_ := (rk.below b6)
    clear rk; have rk := rk_; clear rk_
    have rq_ := (rq.below b6)
    clear rq; have rq := rq_; clear rq_
    have xk_ : Box w6 (w1.heap.size) #[.int .i64 (p : Int), .slice kA kn kc] 33 := (Box.b xk b6)
    clear xk; have xk := xk_; clear xk_
    (try simp only [Act.put, layA, layB, layC])
    have hS : ∀ W, Later w6 W → (Below w.heap.size w W ∧ Below w6.heap.size w6 W ∧ W.cell? ⟨w1.heap.size, 0, none⟩ = some (.int .i64 (p : Int)) ∧ W.cell? ⟨w1.heap.size, 1, none⟩ = some (.slice kA kn kc) ∧ W.cell? ⟨gp, op, none⟩ = some (.int .i64 (nth l 0))) := fun W hW => ⟨Below.trans (b := _) (by repeat (with_reducible (first | assumption | exact Below.refl _ _ | refine Below.alloc ?_ (by first | omega | (simp; done) | (simp; omega)) _ | refine Below.setCell ?_ (by first | omega | (simp; done) | (simp; omega)) _ | refine Below.drew ?_ | refine below_drewN ?_ _))) (Below.mono hW (by first | omega | (simp [size_drew]; done) | (simp [size_drew]; omega))), Below.trans (b := _) (by repeat (with_reducible (first | assumption | exact Below.refl _ _ | refine Below.alloc ?_ (by first | omega | (simp; done) | (simp; omega)) _ | refine Below.setCell ?_ (by first | omega | (simp; done) | (simp; omega)) _ | refine Below.drew ?_ | refine below_drewN ?_ _))) (Below.mono hW (by first | omega | (simp [size_drew]; done) | (simp [size_drew]; omega))), (Box.below xk hW (by first | omega | (simp [size_drew]; done) | (simp [size_drew]; omega))).two.1, (Box.below xk hW (by first | omega | (simp [size_drew]; done) | (simp [size_drew]; omega))).two.2.1, (OwnL.cellAt ((rq).below hW) 0 (by omega))⟩
    (refine tkM 10 hG hS ?_; (try simp only [Act.put, layA, layB, layC]))
    (refine tkM 11 hG hS ?_; (try simp only [Act.put, layA, layB, layC]))
    (refine tkY 12 hG ?_; (try simp only [Act.put, layA, layB, layC]))
    refine storeM (z := 15) (by simp only [List.getElem?_toArray, List.getElem?_cons_succ, List.getElem?_cons_zero] <;> rfl) (by kernel_rfl) (by rfl) (by rfl) ?_
    intro w7 b7
    have B7 : Below w.heap.size w w7 := (hS w7 b7).1
    have z7 := Below.size b7
    (try simp only [World.size_alloc, World.size_setCell, size_drew] at z7)
    have rk_ := (rk.below b7)
    clear rk; have rk := rk_; clear rk_
    have rq_ := (rq.below b7)
    clear rq; have rq := rq_; clear rq_
    have ra_ := (ra.below b7)
    clear ra; have ra := ra_; clear ra_
    have xk_ : Box w7 (w1.heap.size) #[.int .i64 (p : Int), .slice kA kn kc] 33 := (Box.b xk b7)
    clear xk; have xk := xk_; clear xk_
    clear hS hG
    refine Zc.cons fun gxt xt nxt => ?_
    have nxt_0 := nxt (w5.heap.size, w6.heap.size) (by simp)
    dsimp only at nxt_0 xt
    have nxt_1 := nxt (w3.heap.size, w4.heap.size) (by simp)
    dsimp only at nxt_1 xt
    have nxt_2 := nxt (0, w2.heap.size) (by simp)
    dsimp only at nxt_2 xt
    clear nxt
    refine Zc.cons fun gxa xa nxa => ?_
    have nxa_0 := nxa (gxt, gxt + 1) (by simp)
    dsimp only at nxa_0 xa
    have nxa_1 := nxa (w5.heap.size, w6.heap.size) (by simp)
    dsimp only at nxa_1 xa
    have nxa_2 := nxa (w3.heap.size, w4.heap.size) (by simp)
    dsimp only at nxa_2 xa
    have nxa_3 := nxa (0, w2.heap.size) (by simp)
    dsimp only at nxa_3 xa
    clear nxa
    refine Zc.nil ?_
    (try unfold ptr)
    (try simp only [Act.put, layA, layB, layC])
    have lxa := xa.lt
    have lxt := xt.lt
    obtain ⟨cxa_0, cxa_1, fxa_0, fxa_1⟩ := xa.two
    obtain ⟨cxt_0, cxt_1, fxt_0, fxt_1⟩ := xt.two
    have ne_xa_xt : gxa ≠ gxt := by omega
    have ne_xt_xa : gxt ≠ gxa := by omega
    refine ⟨_, by go_simp; (first | done | with_reducible rfl | exact ⟨rfl, rfl⟩), ?_⟩
    (try simp only [Act.put, layA, layB, layC])
    refine skipAny (i := 16) (by simp only [List.getElem?_toArray, List.getElem?_cons_succ, List.getElem?_cons_zero] <;> rfl) (by kernel_rfl) (by rfl) (by go_simp; (first | done | with_reducible rfl | exact ⟨rfl, rfl⟩)) ?_
    (try simp only [Act.put, layA, layB, layC])
    refine wpAny_done (by kernel_rfl) ?_ _
    clear cxa_0 cxa_1 fxa_0 fxa_1 cxt_0 cxt_1 fxt_0 fxt_1 ne_xa_xt ne_xt_xa
    generalize hw8 : World.setCell _ _ _ = w8
    have z8 : w7.heap.size ≤ w8.heap.size := by rw [← hw8]; simp
    have B8 : Below w.heap.size w w8 := by rw [← hw8]; repeat (with_reducible (first | assumption | exact Below.refl _ _ | refine Below.alloc ?_ (by first | omega | (simp; done) | (simp; omega)) _ | refine Below.setCell ?_ (by first | omega | (simp; done) | (simp; omega)) _ | refine Below.drew ?_ | refine below_drewN ?_ _))
    have hK : ∀ k, k ≠ gxa → k ≠ gxt → k < w7.heap.size → w8.heap[k]? = w7.heap[k]? := by
      intro k h0 h1 _; rw [← hw8]
      repeat (first | rfl | refine (Below.heap_setCell _ _ _ _ (by first | exact h0 | exact h1)).trans ?_)
    have rk_ := rk.keepBlock z8 (fun k h1 h2 => hK k (by omega) (by omega) (by have := rk.2.1; omega))
    clear rk; have rk := rk_; clear rk_
    have rq_ := rq.keepBlock z8 (fun k h1 h2 => hK k (by omega) (by omega) (by have := rq.2.1; omega))
    clear rq; have rq := rq_; clear rq_
    have ra_ := ra.keepBlock z8 (fun k h1 h2 => hK k (by omega) (by omega) (by have := ra.2.1; omega))
    clear ra; have ra := ra_; clear ra_
    have xk_ : Box w8 (w1.heap.size) #[.int .i64 (p : Int), .slice kA kn kc] 33 := (by rw [← hw8]; exact ((((xk.far (by omega)).far (by omega)).far (by omega)).far (by omega)))
    clear xk; have xk := xk_; clear xk_
    have xt_ : Box w8 (gxt) #[.int .i64 (ts : Int), .int .i64 (nT (p : Int) al (nth l 0 % (p : Int)) (ts : Int) (ta : Int))] 40 := (by rw [← hw8]; exact ((((xt.far (by omega)).far (by omega)).setAt (i := 0) (v := .int .i64 (ts : Int)) (ds := #[.int .i64 (ts : Int), .int .i64 0]) (by simp)).setAt (i := 1) (v := .int .i64 (nT (p : Int) al (nth l 0 % (p : Int)) (ts : Int) (ta : Int))) (ds := #[.int .i64 (ts : Int), .int .i64 (nT (p : Int) al (nth l 0 % (p : Int)) (ts : Int) (ta : Int))]) (by simp)))
    clear xt; have xt := xt_; clear xt_
    have xa_ : Box w8 (gxa) #[.slice aA0 an0 ac0, .slice aA1 an1 ac1] 38 := (by rw [← hw8]; exact ((((xa.setAt (i := 0) (v := .slice aA0 an0 ac0) (ds := #[.slice aA0 an0 ac0, .slice none 0 0]) (by simp)).setAt (i := 1) (v := .slice aA1 an1 ac1) (ds := #[.slice aA0 an0 ac0, .slice aA1 an1 ac1]) (by simp)).far (by omega)).far (by omega)))
    clear xa; have xa := xa_; clear xa_
    clear hw8 hK
    clear hll
    have Va := Lib.hid (isV_n (s := (ts : Int)) (a := (ta : Int)) HK.out (nth l 0 % (p : Int)) ex.out (by omega) (by omega))
    generalize nS (p : Int) al (nth l 0 % (p : Int)) (ts : Int) (ta : Int) = aS at *
    generalize nM (p : Int) al (nth l 0 % (p : Int)) (ts : Int) (ta : Int) = aM at *
    have aSn : aS.length ≤ 1048576 := by have := Va.out.len; have := HL.out; omega
    have aMn : aM.length ≤ 1048576 := by have := Va.out.len; have := HL.out; omega
    obtain ⟨cxk_0, cxk_1, fxk_0, fxk_1⟩ := xk.two
    have l_xk_0 : w1.heap.size < w8.heap.size := by omega
    obtain ⟨cxa_0, cxa_1, fxa_0, fxa_1⟩ := xa.two
    have l_xa_0 : gxa < w8.heap.size := by omega
    go_wp2_with fail
    refine (iAuthAdd_L (p : Int) (rk).rd hal (ra).rd aSn aMn (ra).rd aSn aMn).mono ?_
    rintro e w9 ⟨sA0, sn0, sc0, sA1, sn1, sc1, rfl, rs, b9⟩
    clear cxk_0 cxk_1 fxk_0 fxk_1 l_xk_0 cxa_0 cxa_1 fxa_0 fxa_1 l_xa_0
    have z9 := b9.size
    try simp only [World.size_alloc, World.size_setCell, size_drew] at z9
    have B9 : Below w.heap.size w w9 := Below.t b9
    have rk_ := rk.below b9
    clear rk; have rk := rk_; clear rk_
    have rq_ := rq.below b9
    clear rq; have rq := rq_; clear rq_
    have ra_ := ra.below b9
    clear ra; have ra := ra_; clear ra_
    have xk_ : Box w9 (w1.heap.size) #[.int .i64 (p : Int), .slice kA kn kc] 33 := xk.below b9 (by first | omega | (simp [size_drew]; done) | (simp [size_drew]; omega))
    clear xk; have xk := xk_; clear xk_
    have xt_ : Box w9 (gxt) #[.int .i64 (ts : Int), .int .i64 (nT (p : Int) al (nth l 0 % (p : Int)) (ts : Int) (ta : Int))] 40 := xt.below b9 (by first | omega | (simp [size_drew]; done) | (simp [size_drew]; omega))
    clear xt; have xt := xt_; clear xt_
    have xa_ : Box w9 (gxa) #[.slice aA0 an0 ac0, .slice aA1 an1 ac1] 38 := xa.below b9 (by first | omega | (simp [size_drew]; done) | (simp [size_drew]; omega))
    clear xa; have xa := xa_; clear xa_
    try simp only [World.size_alloc, World.size_setCell, size_drew] at rs
    have Vs := Lib.hid (Va.out.addA Va.out)
    have hd := Lib.hid Va.out.dbl
    have hmk := Lib.hid Va.out.dblOk
    generalize aAddS (p : Int) al aS aM aS aM = sS at *
    generalize aAddM (p : Int) al aS aM aS aM = sM at *
    have sSn : sS.length ≤ 1048576 := by have := Vs.out.len; have := HL.out; omega
    have sMn : sM.length ≤ 1048576 := by have := Vs.out.len; have := HL.out; omega
    have ht2 : (2 : Int).tmod (p : Int) = 2 % (p : Int) := Int.tmod_eq_emod_of_nonneg (by omega)
    obtain ⟨cxk_0, cxk_1, fxk_0, fxk_1⟩ := xk.two
    have l_xk_0 : w1.heap.size < w9.heap.size := by omega
    have l_xk_1 : w1.heap.size < w9.heap.size + 1 := by omega
    go_wp2_with fail
    clear cxk_0 cxk_1 fxk_0 fxk_1 l_xk_0 l_xk_1
    generalize hw10 : World.alloc _ _ = w10
    have z10 : w9.heap.size + 1 ≤ w10.heap.size := by rw [← hw10]; simp
    have B10 : Below w.heap.size w w10 := by rw [← hw10]; repeat (with_reducible (first | assumption | exact Below.refl _ _ | refine Below.alloc ?_ (by first | omega | (simp; done) | (simp; omega)) _ | refine Below.setCell ?_ (by first | omega | (simp; done) | (simp; omega)) _ | refine Below.drew ?_ | refine below_drewN ?_ _))
    have hK : ∀ k, k < w9.heap.size → w10.heap[k]? = w9.heap[k]? := by
      intro k hk; rw [← hw10]
      repeat (first | rfl | refine (Below.heap_alloc _ _ _ (by first | omega | (simp; omega))).trans ?_)
    have rk_ := rk.keepBlock (w' := w10) (by omega) (fun k h1 h2 => hK k  (by have := rk.2.1; omega))
    clear rk; have rk := rk_; clear rk_
    have rq_ := rq.keepBlock (w' := w10) (by omega) (fun k h1 h2 => hK k  (by have := rq.2.1; omega))
    clear rq; have rq := rq_; clear rq_
    have ra_ := ra.keepBlock (w' := w10) (by omega) (fun k h1 h2 => hK k  (by have := ra.2.1; omega))
    clear ra; have ra := ra_; clear ra_
    have rs_ := rs.keepBlock (w' := w10) (by omega) (fun k h1 h2 => hK k  (by have := rs.2.1; omega))
    clear rs; have rs := rs_; clear rs_
    have xk_ : Box w10 (w1.heap.size) #[.int .i64 (p : Int), .slice kA kn kc] 33 := (by rw [← hw10]; exact (xk.alloc _))
    clear xk; have xk := xk_; clear xk_
    have xt_ : Box w10 (gxt) #[.int .i64 (ts : Int), .int .i64 (nT (p : Int) al (nth l 0 % (p : Int)) (ts : Int) (ta : Int))] 40 := (by rw [← hw10]; exact (xt.alloc _))
    clear xt; have xt := xt_; clear xt_
    have xa_ : Box w10 (gxa) #[.slice aA0 an0 ac0, .slice aA1 an1 ac1] 38 := (by rw [← hw10]; exact (xa.alloc _))
    clear xa; have xa := xa_; clear xa_
    have xs_ : Box w10 (w9.heap.size) #[.slice sA0 sn0 sc0, .slice sA1 sn1 sc1] 38 := (by rw [← hw10]; exact (Box.new (g := w9.heap.size) _ #[.slice sA0 sn0 sc0, .slice sA1 sn1 sc1] 38 (by simp)))
    have xs := xs_; clear xs_
    clear hw10 hK
    obtain ⟨cxk_0, cxk_1, fxk_0, fxk_1⟩ := xk.two
    have l_xk_0 : w1.heap.size < w10.heap.size := by omega
    obtain ⟨cxa_0, cxa_1, fxa_0, fxa_1⟩ := xa.two
    have l_xa_0 : gxa < w10.heap.size := by omega
    go_wp2_with fail
    clear cxk_0 cxk_1 fxk_0 fxk_1 l_xk_0 cxa_0 cxa_1 fxa_0 fxa_1 l_xa_0
    refine wp_region_M [7] (w10.heap.size) 8 (S := fun W => Below w.heap.size w W ∧ Below w10.heap.size w10 W ∧ W.cell? ⟨w1.heap.size, 0, none⟩ = some (.int .i64 (p : Int)) ∧ W.cell? ⟨w1.heap.size, 1, none⟩ = some (.slice kA kn kc) ∧ W.cell? ⟨gxa, 0, none⟩ = some (.slice aA0 an0 ac0) ∧ W.cell? ⟨gxa, 1, none⟩ = some (.slice aA1 an1 ac1)) (by kernel_rfl) (by rfl) (fun W hW => ⟨Below.trans (b := _) (by repeat (with_reducible (first | assumption | exact Below.refl _ _ | refine Below.alloc ?_ (by first | omega | (simp; done) | (simp; omega)) _ | refine Below.setCell ?_ (by first | omega | (simp; done) | (simp; omega)) _ | refine Below.drew ?_ | refine below_drewN ?_ _))) (Below.mono hW (by first | omega | (simp [size_drew]; done) | (simp [size_drew]; omega))), Below.trans (b := _) (by repeat (with_reducible (first | assumption | exact Below.refl _ _ | refine Below.alloc ?_ (by first | omega | (simp; done) | (simp; omega)) _ | refine Below.setCell ?_ (by first | omega | (simp; done) | (simp; omega)) _ | refine Below.drew ?_ | refine below_drewN ?_ _))) (Below.mono hW (by first | omega | (simp [size_drew]; done) | (simp [size_drew]; omega))), (Box.below xk.drew hW (by first | omega | (simp [size_drew]; done) | (simp [size_drew]; omega))).two.1, (Box.below xk.drew hW (by first | omega | (simp [size_drew]; done) | (simp [size_drew]; omega))).two.2.1, (Box.below xa.drew hW (by first | omega | (simp [size_drew]; done) | (simp [size_drew]; omega))).two.1, (Box.below xa.drew hW (by first | omega | (simp [size_drew]; done) | (simp [size_drew]; omega))).two.2.1⟩) (by first | omega | (simp [size_drew]; done) | (simp [size_drew]; omega)) (fun hS hG => ?_)
    (try dsimp only at hS)
    refine pendM 6 8 #[.slice none 0 0, .slice none 0 0] 38 (by simp only [List.getElem?_toArray, List.getElem?_cons_succ, List.getElem?_cons_zero] <;> rfl) (by kernel_rfl) (by exact fun _ _ _ _ h => h) (by intro a W; unfold ptr; go_simp; (first | done | rfl)) hG ?_
    (refine tkM 0 hG hS ?_; (try simp only [Act.put, layA, layB, layC]))
    (refine tkM 1 hG hS ?_; (try simp only [Act.put, layA, layB, layC]))
    (refine tkM 2 hG hS ?_; (try simp only [Act.put, layA, layB, layC]))
    (refine tkM 3 hG hS ?_; (try simp only [Act.put, layA, layB, layC]))
    (refine tkM 4 hG hS ?_; (try simp only [Act.put, layA, layB, layC]))
    refine callM hG (i := 5) (by simp only [List.getElem?_toArray, List.getElem?_cons_succ, List.getElem?_cons_zero] <;> rfl) (by kernel_rfl) (by rfl) (by rfl) (by intro W hW; have hSw := hS W hW; (try dsimp only at hSw); go_simp; (first | done | with_reducible rfl | exact ⟨rfl, rfl⟩)) ?_
    intro w11 b11
    have B11 : Below w.heap.size w w11 := (hS w11 b11).1
    have z11 := Below.size b11
    (try simp only [World.size_alloc, World.size_setCell, size_drew] at z11)
    have rk_ := (rk.drew.below b11)
    clear rk; have rk := rk_; clear rk_
    have rq_ := (rq.drew.below b11)
    clear rq; have rq := rq_; clear rq_
    have ra_ := (ra.drew.below b11)
    clear ra; have ra := ra_; clear ra_
    have rs_ := (rs.drew.below b11)
    clear rs; have rs := rs_; clear rs_
    have xk_ : Box w11 (w1.heap.size) #[.int .i64 (p : Int), .slice kA kn kc] 33 := (Box.b xk.drew b11)
    clear xk; have xk := xk_; clear xk_
    have xt_ : Box w11 (gxt) #[.int .i64 (ts : Int), .int .i64 (nT (p : Int) al (nth l 0 % (p : Int)) (ts : Int) (ta : Int))] 40 := (Box.b xt.drew b11)
    clear xt; have xt := xt_; clear xt_
    have xa_ : Box w11 (gxa) #[.slice aA0 an0 ac0, .slice aA1 an1 ac1] 38 := (Box.b xa.drew b11)
    clear xa; have xa := xa_; clear xa_
    have xs_ : Box w11 (w9.heap.size) #[.slice sA0 sn0 sc0, .slice sA1 sn1 sc1] 38 := (Box.b xs.drew b11)
    clear xs; have xs := xs_; clear xs_
    clear hS hG
    go_at_call 53
    refine (iAuthScale_L (p : Int) (rk).rd hal (ra).rd aSn aMn (2 % (p : Int))).mono ?_
    rintro e w12 ⟨mA0, mn0, mc0, mA1, mn1, mc1, rfl, rm, b12⟩
    refine ⟨_, rfl, b12, fun hG => ?_⟩
    have z12 := Below.size b12
    have B12 : Below w.heap.size w w12 := Below.t b12
    have rk_ := (rk.below b12)
    clear rk; have rk := rk_; clear rk_
    have rq_ := (rq.below b12)
    clear rq; have rq := rq_; clear rq_
    have ra_ := (ra.below b12)
    clear ra; have ra := ra_; clear ra_
    have rs_ := (rs.below b12)
    clear rs; have rs := rs_; clear rs_
    have xk_ : Box w12 (w1.heap.size) #[.int .i64 (p : Int), .slice kA kn kc] 33 := (Box.b xk b12)
    clear xk; have xk := xk_; clear xk_
    have xt_ : Box w12 (gxt) #[.int .i64 (ts : Int), .int .i64 (nT (p : Int) al (nth l 0 % (p : Int)) (ts : Int) (ta : Int))] 40 := (Box.b xt b12)
    clear xt; have xt := xt_; clear xt_
    have xa_ : Box w12 (gxa) #[.slice aA0 an0 ac0, .slice aA1 an1 ac1] 38 := (Box.b xa b12)
    clear xa; have xa := xa_; clear xa_
    have xs_ : Box w12 (w9.heap.size) #[.slice sA0 sn0 sc0, .slice sA1 sn1 sc1] 38 := (Box.b xs b12)
    clear xs; have xs := xs_; clear xs_
    (try simp only [Act.put, layA, layB, layC])
    have hS : ∀ W, Later w12 W → (Below w.heap.size w W ∧ Below w12.heap.size w12 W ∧ W.cell? ⟨w1.heap.size, 0, none⟩ = some (.int .i64 (p : Int)) ∧ W.cell? ⟨w1.heap.size, 1, none⟩ = some (.slice kA kn kc) ∧ W.cell? ⟨gxa, 0, none⟩ = some (.slice aA0 an0 ac0) ∧ W.cell? ⟨gxa, 1, none⟩ = some (.slice aA1 an1 ac1)) := fun W hW => ⟨Below.trans (b := _) (by repeat (with_reducible (first | assumption | exact Below.refl _ _ | refine Below.alloc ?_ (by first | omega | (simp; done) | (simp; omega)) _ | refine Below.setCell ?_ (by first | omega | (simp; done) | (simp; omega)) _ | refine Below.drew ?_ | refine below_drewN ?_ _))) (Below.mono hW (by first | omega | (simp [size_drew]; done) | (simp [size_drew]; omega))), Below.trans (b := _) (by repeat (with_reducible (first | assumption | exact Below.refl _ _ | refine Below.alloc ?_ (by first | omega | (simp; done) | (simp; omega)) _ | refine Below.setCell ?_ (by first | omega | (simp; done) | (simp; omega)) _ | refine Below.drew ?_ | refine below_drewN ?_ _))) (Below.mono hW (by first | omega | (simp [size_drew]; done) | (simp [size_drew]; omega))), (Box.below xk hW (by first | omega | (simp [size_drew]; done) | (simp [size_drew]; omega))).two.1, (Box.below xk hW (by first | omega | (simp [size_drew]; done) | (simp [size_drew]; omega))).two.2.1, (Box.below xa hW (by first | omega | (simp [size_drew]; done) | (simp [size_drew]; omega))).two.1, (Box.below xa hW (by first | omega | (simp [size_drew]; done) | (simp [size_drew]; omega))).two.2.1⟩
    refine storeM (z := 7) (by simp only [List.getElem?_toArray, List.getElem?_cons_succ, List.getElem?_cons_zero] <;> rfl) (by kernel_rfl) (by rfl) (by rfl) ?_
    intro w13 b13
    have B13 : Below w.heap.size w w13 := (hS w13 b13).1
    have z13 := Below.size b13
    (try simp only [World.size_alloc, World.size_setCell, size_drew] at z13)
    have rk_ := (rk.below b13)
    clear rk; have rk := rk_; clear rk_
    have rq_ := (rq.below b13)
    clear rq; have rq := rq_; clear rq_
    have ra_ := (ra.below b13)
    clear ra; have ra := ra_; clear ra_
    have rs_ := (rs.below b13)
    clear rs; have rs := rs_; clear rs_
    have rm_ := (rm.below b13)
    clear rm; have rm := rm_; clear rm_
    have xk_ : Box w13 (w1.heap.size) #[.int .i64 (p : Int), .slice kA kn kc] 33 := (Box.b xk b13)
    clear xk; have xk := xk_; clear xk_
    have xt_ : Box w13 (gxt) #[.int .i64 (ts : Int), .int .i64 (nT (p : Int) al (nth l 0 % (p : Int)) (ts : Int) (ta : Int))] 40 := (Box.b xt b13)
    clear xt; have xt := xt_; clear xt_
    have xa_ : Box w13 (gxa) #[.slice aA0 an0 ac0, .slice aA1 an1 ac1] 38 := (Box.b xa b13)
    clear xa; have xa := xa_; clear xa_
    have xs_ : Box w13 (w9.heap.size) #[.slice sA0 sn0 sc0, .slice sA1 sn1 sc1] 38 := (Box.b xs b13)
    clear xs; have xs := xs_; clear xs_
    clear hS hG
    refine Zc.cons fun gxm xm nxm => ?_
    have nxm_0 := nxm (w11.heap.size, w12.heap.size) (by simp)
    dsimp only at nxm_0 xm
    have nxm_1 := nxm (0, w10.heap.size) (by simp)
    dsimp only at nxm_1 xm
    clear nxm
    refine Zc.nil ?_
    (try unfold ptr)
    (try simp only [Act.put, layA, layB, layC])
    have lxm := xm.lt
    obtain ⟨cxm_0, cxm_1, fxm_0, fxm_1⟩ := xm.two
    refine ⟨_, by go_simp; (first | done | with_reducible rfl | exact ⟨rfl, rfl⟩), ?_⟩
    (try simp only [Act.put, layA, layB, layC])
    refine wpAny_done (by kernel_rfl) ?_ _
    clear cxm_0 cxm_1 fxm_0 fxm_1
    generalize hw14 : World.setCell _ _ _ = w14
    have z14 : w13.heap.size ≤ w14.heap.size := by rw [← hw14]; simp
    have B14 : Below w.heap.size w w14 := by rw [← hw14]; repeat (with_reducible (first | assumption | exact Below.refl _ _ | refine Below.alloc ?_ (by first | omega | (simp; done) | (simp; omega)) _ | refine Below.setCell ?_ (by first | omega | (simp; done) | (simp; omega)) _ | refine Below.drew ?_ | refine below_drewN ?_ _))
    have hK : ∀ k, k ≠ gxm → k < w13.heap.size → w14.heap[k]? = w13.heap[k]? := by
      intro k h0 _; rw [← hw14]
      repeat (first | rfl | refine (Below.heap_setCell _ _ _ _ (by first | exact h0)).trans ?_)
    have rk_ := rk.keepBlock z14 (fun k h1 h2 => hK k (by omega) (by have := rk.2.1; omega))
    clear rk; have rk := rk_; clear rk_
    have rq_ := rq.keepBlock z14 (fun k h1 h2 => hK k (by omega) (by have := rq.2.1; omega))
    clear rq; have rq := rq_; clear rq_
    have ra_ := ra.keepBlock z14 (fun k h1 h2 => hK k (by omega) (by have := ra.2.1; omega))
    clear ra; have ra := ra_; clear ra_
    have rs_ := rs.keepBlock z14 (fun k h1 h2 => hK k (by omega) (by have := rs.2.1; omega))
    clear rs; have rs := rs_; clear rs_
    have rm_ := rm.keepBlock z14 (fun k h1 h2 => hK k (by omega) (by have := rm.2.1; omega))
    clear rm; have rm := rm_; clear rm_
    have xk_ : Box w14 (w1.heap.size) #[.int .i64 (p : Int), .slice kA kn kc] 33 := (by rw [← hw14]; exact ((xk.far (by omega)).far (by omega)))
    clear xk; have xk := xk_; clear xk_
    have xt_ : Box w14 (gxt) #[.int .i64 (ts : Int), .int .i64 (nT (p : Int) al (nth l 0 % (p : Int)) (ts : Int) (ta : Int))] 40 := (by rw [← hw14]; exact ((xt.far (by omega)).far (by omega)))
    clear xt; have xt := xt_; clear xt_
    have xa_ : Box w14 (gxa) #[.slice aA0 an0 ac0, .slice aA1 an1 ac1] 38 := (by rw [← hw14]; exact ((xa.far (by omega)).far (by omega)))
    clear xa; have xa := xa_; clear xa_
    have xs_ : Box w14 (w9.heap.size) #[.slice sA0 sn0 sc0, .slice sA1 sn1 sc1] 38 := (by rw [← hw14]; exact ((xs.far (by omega)).far (by omega)))
    clear xs; have xs := xs_; clear xs_
    have xm_ : Box w14 (gxm) #[.slice mA0 mn0 mc0, .slice mA1 mn1 mc1] 38 := (by rw [← hw14]; exact ((xm.setAt (i := 0) (v := .slice mA0 mn0 mc0) (ds := #[.slice mA0 mn0 mc0, .slice none 0 0]) (by simp)).setAt (i := 1) (v := .slice mA1 mn1 mc1) (ds := #[.slice mA0 mn0 mc0, .slice mA1 mn1 mc1]) (by simp)))
    clear xm; have xm := xm_; clear xm_
    clear hw14 hK
    clear ht2
    rw [hd.out.1, hd.out.2] at rm
    have hmv : Hid (macOk (p : Int) al ((2 * nth l 0) % (p : Int)) sM = true) := by have := hmk.out; rwa [m_mul_r] at this
    have e1 : ((sn0 : Int) == (kn : Int)) = true := by rw [ownLen (A := sA0) (n := sn0) (c := sc0) (l := sS) rs (by simp), ownLen (A := kA) (n := kn) (c := kc) (l := al) rk (by simp), Vs.out.len.1]; simp
    have hw1 : IntKind.i64.wrap (2 * nth l 0) = 2 * nth l 0 := by (rw [IntKind.wrap_i64]; (first | omega | (unfold wrap64; omega)))
    have ht1 : (2 * nth l 0).tmod (p : Int) = (2 * nth l 0) % (p : Int) := Int.tmod_eq_emod_of_nonneg (by omega)
    obtain ⟨cxk_0, cxk_1, fxk_0, fxk_1⟩ := xk.two
    have l_xk_0 : w1.heap.size < w14.heap.size := by omega
    obtain ⟨cxs_0, cxs_1, fxs_0, fxs_1⟩ := xs.two
    have l_xs_0 : w9.heap.size < w14.heap.size := by omega
    obtain ⟨cxm_0, cxm_1, fxm_0, fxm_1⟩ := xm.two
    have l_xm_0 : gxm < w14.heap.size := by omega
    go_wp2_with fail
    clear cxk_0 cxk_1 fxk_0 fxk_1 l_xk_0 cxs_0 cxs_1 fxs_0 fxs_1 l_xs_0 cxm_0 cxm_1 fxm_0 fxm_1 l_xm_0
    refine wp_region_held_drew (S := fun W => W.cell? ⟨w1.heap.size, 0, none⟩ = some (.int .i64 (p : Int)) ∧ W.cell? ⟨w1.heap.size, 1, none⟩ = some (.slice kA kn kc) ∧ W.cell? ⟨w9.heap.size, 0, none⟩ = some (.slice sA0 sn0 sc0) ∧ W.cell? ⟨w9.heap.size, 1, none⟩ = some (.slice sA1 sn1 sc1) ∧ W.cell? ⟨gxm, 0, none⟩ = some (.slice mA0 mn0 mc0) ∧ W.cell? ⟨gxm, 1, none⟩ = some (.slice mA1 mn1 mc1) ∧ W.cell? ⟨gp, op, none⟩ = some (.int .i64 (nth l 0))) (by kernel_rfl) ⟨xk.drew.two.1, xk.drew.two.2.1, xs.drew.two.1, xs.drew.two.2.1, xm.drew.two.1, xm.drew.two.2.1, (ownCell (l := l) (rq.drew) (List.mem_cons_self) 0 (by rw [Hl.out]; omega))⟩ (fun hS => ?_)
    (refine tk 0 hS ?_; (try simp only [Act.put, layA, layB, layC]))
    (refine tk 1 hS ?_; (try simp only [Act.put, layA, layB, layC]))
    (refine tk 2 hS ?_; (try simp only [Act.put, layA, layB, layC]))
    (refine tk 3 hS ?_; (try simp only [Act.put, layA, layB, layC]))
    refine on 4 ?_
    refine callH (by go_simp; (first | done | with_reducible rfl | exact ⟨rfl, rfl⟩)) ?_
    go_at_call 77
    refine (sameInts_L (RdL.sub (ls2 := [(.slice sA0 sn0 sc0, .ints sS)]) (rs.drew).rd (by simp)) (RdL.sub (ls2 := [(.slice mA0 mn0 mc0, .ints sS)]) (rm.drew).rd (by simp)) sSn).mono ?_
    rintro e w15 ⟨rfl, b15⟩
    clear hS
    have z15 := Below.size b15
    (try simp only [World.size_alloc, World.size_setCell, size_drew] at z15)
    have B15 : Below w.heap.size w w15 := Below.t b15
    have rk_ := (rk.drew.below b15)
    clear rk; have rk := rk_; clear rk_
    have rq_ := (rq.drew.below b15)
    clear rq; have rq := rq_; clear rq_
    have ra_ := (ra.drew.below b15)
    clear ra; have ra := ra_; clear ra_
    have rs_ := (rs.drew.below b15)
    clear rs; have rs := rs_; clear rs_
    have rm_ := (rm.drew.below b15)
    clear rm; have rm := rm_; clear rm_
    have xk_ : Box w15 (w1.heap.size) #[.int .i64 (p : Int), .slice kA kn kc] 33 := (Box.b xk.drew b15)
    clear xk; have xk := xk_; clear xk_
    have xt_ : Box w15 (gxt) #[.int .i64 (ts : Int), .int .i64 (nT (p : Int) al (nth l 0 % (p : Int)) (ts : Int) (ta : Int))] 40 := (Box.b xt.drew b15)
    clear xt; have xt := xt_; clear xt_
    have xa_ : Box w15 (gxa) #[.slice aA0 an0 ac0, .slice aA1 an1 ac1] 38 := (Box.b xa.drew b15)
    clear xa; have xa := xa_; clear xa_
    have xs_ : Box w15 (w9.heap.size) #[.slice sA0 sn0 sc0, .slice sA1 sn1 sc1] 38 := (Box.b xs.drew b15)
    clear xs; have xs := xs_; clear xs_
    have xm_ : Box w15 (gxm) #[.slice mA0 mn0 mc0, .slice mA1 mn1 mc1] 38 := (Box.b xm.drew b15)
    clear xm; have xm := xm_; clear xm_
    refine ⟨_, rfl, ⟨xk.two.1, xk.two.2.1, xs.two.1, xs.two.2.1, xm.two.1, xm.two.2.1, (ownCell (l := l) (rq) (List.mem_cons_self) 0 (by rw [Hl.out]; omega))⟩, fun hS => ?_⟩
    (try simp only [Act.put, layA, layB, layC])
    (refine tk 5 hS ?_; (try simp only [Act.put, layA, layB, layC]))
    (refine tk 6 hS ?_; (try simp only [Act.put, layA, layB, layC]))
    (refine tk 7 hS ?_; (try simp only [Act.put, layA, layB, layC]))
    (refine tk 8 hS ?_; (try simp only [Act.put, layA, layB, layC]))
    (refine tk 9 hS ?_; (try simp only [Act.put, layA, layB, layC]))
    refine on 10 ?_
    refine callH (by go_simp; (first | done | with_reducible rfl | exact ⟨rfl, rfl⟩)) ?_
    go_at_call 77
    refine (sameInts_L (RdL.sub (ls2 := [(.slice sA1 sn1 sc1, .ints sM)]) (rs).rd (by simp)) (RdL.sub (ls2 := [(.slice mA1 mn1 mc1, .ints sM)]) (rm).rd (by simp)) sMn).mono ?_
    rintro e w16 ⟨rfl, b16⟩
    clear hS
    have z16 := Below.size b16
    (try simp only [World.size_alloc, World.size_setCell, size_drew] at z16)
    have B16 : Below w.heap.size w w16 := Below.t b16
    have rk_ := (rk.below b16)
    clear rk; have rk := rk_; clear rk_
    have rq_ := (rq.below b16)
    clear rq; have rq := rq_; clear rq_
    have ra_ := (ra.below b16)
    clear ra; have ra := ra_; clear ra_
    have rs_ := (rs.below b16)
    clear rs; have rs := rs_; clear rs_
    have rm_ := (rm.below b16)
    clear rm; have rm := rm_; clear rm_
    have xk_ : Box w16 (w1.heap.size) #[.int .i64 (p : Int), .slice kA kn kc] 33 := (Box.b xk b16)
    clear xk; have xk := xk_; clear xk_
    have xt_ : Box w16 (gxt) #[.int .i64 (ts : Int), .int .i64 (nT (p : Int) al (nth l 0 % (p : Int)) (ts : Int) (ta : Int))] 40 := (Box.b xt b16)
    clear xt; have xt := xt_; clear xt_
    have xa_ : Box w16 (gxa) #[.slice aA0 an0 ac0, .slice aA1 an1 ac1] 38 := (Box.b xa b16)
    clear xa; have xa := xa_; clear xa_
    have xs_ : Box w16 (w9.heap.size) #[.slice sA0 sn0 sc0, .slice sA1 sn1 sc1] 38 := (Box.b xs b16)
    clear xs; have xs := xs_; clear xs_
    have xm_ : Box w16 (gxm) #[.slice mA0 mn0 mc0, .slice mA1 mn1 mc1] 38 := (Box.b xm b16)
    clear xm; have xm := xm_; clear xm_
    refine ⟨_, rfl, ⟨xk.two.1, xk.two.2.1, xs.two.1, xs.two.2.1, xm.two.1, xm.two.2.1, (ownCell (l := l) (rq) (List.mem_cons_self) 0 (by rw [Hl.out]; omega))⟩, fun hS => ?_⟩
    (try simp only [Act.put, layA, layB, layC])
    (refine tk 11 hS ?_; (try simp only [Act.put, layA, layB, layC]))
    (refine tk 12 hS ?_; (try simp only [Act.put, layA, layB, layC]))
    (refine tk 13 hS ?_; (try simp only [Act.put, layA, layB, layC]))
    (refine tk 14 hS ?_; (try simp only [Act.put, layA, layB, layC]))
    (refine tk 15 hS ?_; (try simp only [Act.put, layA, layB, layC]))
    (refine tk 16 hS ?_; (try simp only [Act.put, layA, layB, layC]))
    (refine tk 17 hS ?_; (try simp only [Act.put, layA, layB, layC]))
    (refine tk 18 hS ?_; (try simp only [Act.put, layA, layB, layC]))
    (refine tk 19 hS ?_; (try simp only [Act.put, layA, layB, layC]))
    (refine tk 20 hS ?_; (try simp only [Act.put, layA, layB, layC]))
    (refine tk 21 hS ?_; (try simp only [Act.put, layA, layB, layC]))
    (refine tk 22 hS ?_; (try simp only [Act.put, layA, layB, layC]))
    (refine tk 23 hS ?_; (try simp only [Act.put, layA, layB, layC]))
    (refine tk 24 hS ?_; (try simp only [Act.put, layA, layB, layC]))
    (refine tk 25 hS ?_; (try simp only [Act.put, layA, layB, layC]))
    (refine tk 26 hS ?_; (try simp only [Act.put, layA, layB, layC]))
    (refine tk 27 hS ?_; (try simp only [Act.put, layA, layB, layC]))
    (refine tk 28 hS ?_; (try simp only [Act.put, layA, layB, layC]))
    (refine tk 29 hS ?_; (try simp only [Act.put, layA, layB, layC]))
    (refine tk 30 hS ?_; (try simp only [Act.put, layA, layB, layC]))
    refine on 31 ?_
    refine callH (by go_simp; (first | done | with_reducible rfl | exact ⟨rfl, rfl⟩)) ?_
    go_at_call 39
    refine (iMacCheck_L (p : Int) (rk).rd hal ((2 * nth l 0) % (p : Int)) (rs).rd sSn sMn).mono ?_
    rintro e w17 ⟨rfl, b17⟩
    clear hS
    have z17 := Below.size b17
    (try simp only [World.size_alloc, World.size_setCell, size_drew] at z17)
    have B17 : Below w.heap.size w w17 := Below.t b17
    have rk_ := (rk.below b17)
    clear rk; have rk := rk_; clear rk_
    have rq_ := (rq.below b17)
    clear rq; have rq := rq_; clear rq_
    have ra_ := (ra.below b17)
    clear ra; have ra := ra_; clear ra_
    have rs_ := (rs.below b17)
    clear rs; have rs := rs_; clear rs_
    have rm_ := (rm.below b17)
    clear rm; have rm := rm_; clear rm_
    have xk_ : Box w17 (w1.heap.size) #[.int .i64 (p : Int), .slice kA kn kc] 33 := (Box.b xk b17)
    clear xk; have xk := xk_; clear xk_
    have xt_ : Box w17 (gxt) #[.int .i64 (ts : Int), .int .i64 (nT (p : Int) al (nth l 0 % (p : Int)) (ts : Int) (ta : Int))] 40 := (Box.b xt b17)
    clear xt; have xt := xt_; clear xt_
    have xa_ : Box w17 (gxa) #[.slice aA0 an0 ac0, .slice aA1 an1 ac1] 38 := (Box.b xa b17)
    clear xa; have xa := xa_; clear xa_
    have xs_ : Box w17 (w9.heap.size) #[.slice sA0 sn0 sc0, .slice sA1 sn1 sc1] 38 := (Box.b xs b17)
    clear xs; have xs := xs_; clear xs_
    have xm_ : Box w17 (gxm) #[.slice mA0 mn0 mc0, .slice mA1 mn1 mc1] 38 := (Box.b xm b17)
    clear xm; have xm := xm_; clear xm_
    refine ⟨.bool true, by rw [hmv.out], ⟨xk.two.1, xk.two.2.1, xs.two.1, xs.two.2.1, xm.two.1, xm.two.2.1, (ownCell (l := l) (rq) (List.mem_cons_self) 0 (by rw [Hl.out]; omega))⟩, fun hS => ?_⟩
    (try simp only [Act.put, layA, layB, layC])
    (refine tk 32 hS ?_; (try simp only [Act.put, layA, layB, layC]))
    (refine tk 33 hS ?_; (try simp only [Act.put, layA, layB, layC]))
    clear hS
    refine wpAnyH_done (by kernel_rfl) ?_ _
    go_wp2
    go_ret
    exact ⟨ret_bool (by simp), by repeat (with_reducible (first | assumption | exact Below.refl _ _ | refine Below.alloc ?_ (by first | omega | (simp; done) | (simp; omega)) _ | refine Below.setCell ?_ (by first | omega | (simp; done) | (simp; omega)) _ | refine Below.drew ?_ | refine below_drewN ?_ _))⟩
end Go.Proofs.Ytllnnbmgdbinnaa

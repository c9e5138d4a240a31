/- The walk of the law FnForged. Printed by laws3.py. -/
import Derived.Test.YtllnnbmgdbinnaaDrawK
import Derived.Test.YtllnnbmgdbinnaaCountF
import Derived.Test.YtllnnbmgdbinnaaOpenS
import Derived.Test.YtllnnbmgdbinnaaAuthN
import Derived.Test.YtllnnbmgdbinnaaForgMath
namespace Go.Proofs.Ytllnnbmgdbinnaa
set_option linter.unusedSimpArgs false
set_option linter.unusedVariables false
open Go.RowKit
theorem OwnL.cellAt {w : World} {lo hi g o n c : Nat} {l : List Int} (h : OwnL w lo hi [(.slice (some ⟨g, o, none⟩) n c, .ints l)]) (j : Nat) (hj : j < l.length) : w.cell? ⟨g, o + j, none⟩ = some (.int .i64 (nth l j)) := by
  obtain ⟨A, m, d, e, hI⟩ := h.rd.ints
  cases e
  have hl := hI.len
  obtain ⟨g', o', e', _, hc⟩ := hI.block (by omega)
  cases e'
  exact hc j (by omega)
theorem OwnL.lit1 {w : World} {g : Nat} {k : Int} (h : Box w g #[.int .i64 k] 3) : OwnL w g (g + 1) [(.slice (some ⟨g, 0, none⟩) 1 1, .ints [k])] := by
  refine ⟨by omega, h.lt, fun p hp => ?_, List.pairwise_singleton _ _⟩
  simp at hp; subst hp
  refine ⟨⟨rfl, .inr ⟨g, 1, _, rfl, Nat.le_refl _, h, Nat.le_refl _, by unfold maxLen; omega, rfl, rfl⟩⟩, fun k hk => ?_⟩
  simp [Value.ownBlock] at hk; omega
set_option maxRecDepth 100000 in
set_option maxHeartbeats 4000000 in
theorem walk_FnForged (A : Option Addr) (n c : Nat) (w : World) (hx : Bts0 w A n) :
    Calls Try.prog 7 #[.slice A n c] w fun e w' => e = .returned (.bool true) ∧ Below w.heap.size w w' := by
  by_cases hn : (1048576 : Int) < n
  · go_enter Try.func7, Try.ntmps7
    go_wp2_with fail
    refine (big_any _ _ _ _).mono ?_
    rintro e w1 ⟨rfl, rfl⟩
    go_wp2
    go_ret
    exact ⟨rfl, Below.refl _ _⟩
  · have hB0 : Bts w A n := ⟨by omega, hx.2⟩
    go_enter Try.func7, Try.ntmps7
    go_wp2_with fail
    refine (big_any _ _ _ _).mono ?_
    rintro e w_ ⟨rfl, rfl⟩
    go_wp2_with fail
    refine (DrawPrime_any n c A _ hB0).mono ?_
    rintro e w1 ⟨p, hp, rfl, b1⟩
    obtain ⟨hp1, hp2⟩ := fOk_bd hp
    go_wp2_with fail
    refine (DrawPlaces_any n c A _ (hB0.keep fun _ a _ ha => b1.block _ ha)).mono ?_
    rintro e w2 ⟨v, l, rfl, hl, ha, ho, b2⟩
    have hz2 := b2.size
    obtain ⟨Bp, dp, rfl, hI⟩ := ho.reads
    rw [hl] at hI ho ⊢
    obtain ⟨gp, op, rfl, hgp, _⟩ := hI.block (by omega)
    have rp : OwnL w2 _ w2.heap.size [(.slice (some ⟨gp, op, none⟩) 12 dp, .ints l)] := OwnL.one (d := .ints l) (show OwnD _ _ _ (.ints l) by unfold OwnD; exact ho) hz2
    clear hI ho
    
    have B2 : Below w.heap.size w w2 := b1.trans (b2.mono b1.size)
    have hz2' := B2.size
    obtain ⟨q0l, q0h⟩ := ha (nth l 0) (by rw [nth_lt (by omega)]; exact List.getElem_mem _)
    have c0 := OwnL.cellAt rp 0 (by omega)
    obtain ⟨q1l, q1h⟩ := ha (nth l 1) (by rw [nth_lt (by omega)]; exact List.getElem_mem _)
    have c1 := OwnL.cellAt rp 1 (by omega)
    simp only [Nat.add_zero] at c0
    have hx0 := Int.emod_nonneg (nth l 0) (show (p : Int) ≠ 0 by omega)
    have hx1 := Int.emod_lt_of_pos (nth l 0) (show 0 < (p : Int) by omega)
    have he0 := Int.emod_nonneg (nth l 1) (show (p : Int) - 1 ≠ 0 by omega)
    have he1 := Int.emod_lt_of_pos (nth l 1) (show 0 < (p : Int) - 1 by omega)
    obtain ⟨q2l, q2h⟩ := ha (nth l 2) (by rw [nth_lt (by omega)]; exact List.getElem_mem _)
    obtain ⟨q3l, q3h⟩ := ha (nth l 3) (by rw [nth_lt (by omega)]; exact List.getElem_mem _)
    have HL := Lib.hid hl
    have HP := Lib.hid hp
    clear ha hp hl
    go_wp2
    generalize nth l 0 % (p : Int) = x at *
    generalize nth l 1 % ((p : Int) - 1) = e0 at *
    clear c0 c1 q0l q0h q1l q1h
    have hex : Hid (elem (p : Int) x = true) := elem_iff.2 ⟨HP.out, hx0, hx1⟩
    have hey : Hid (elem (p : Int) ((x + (1 + e0)) % (p : Int)) = true) := elem_mod HP.out _
    have hne : Hid (x ≠ (x + (1 + e0)) % (p : Int)) := shift_ne hex.out (by omega) (by omega)
    have hcf : Hid (countForg (p : Int) (1 + e0) (nth l 3 % (p : Int)) = 1) := by
      show _ = _
      rw [countForg_eq, elem_iff.2 ⟨HP.out, (by omega : 0 ≤ 1 + e0), by omega⟩, elem_mod HP.out]
      simp; omega
    go_loopw [7, 8] (fun n r w3 => ∃ k : Nat, k ≤ p ∧ r = .int .i64 k ∧ n = .int .i64 ((min k 1 : Nat) : Int) ∧ Hid (OwnL w3 w1.heap.size w2.heap.size [(.slice (some ⟨gp, op, none⟩) 12 dp, .ints l)]) ∧ Below w.heap.size w w3) (fun _ r _ => p - (intOf r).toNat)
    case atStart => exact ⟨0, by omega, rfl, rfl, rp, B2⟩
    case round =>
      obtain ⟨w3, hw3⟩ : ∃ x, x = wr := ⟨wr, rfl⟩
      subst hw3
      obtain ⟨k, hk, rfl, rfl, rq_, B3⟩ := hrel
      have rq := rq_.out
      have hq23 : w2.heap.size ≤ w3.heap.size := rq.2.1
      clear rq_ rp B2
      have z3 := B3.size
      have hmn : ((min k 1 : Nat) : Int) ≤ 1 := by omega
      by_cases hlt : (k : Int) < (p : Int)
      · have hka : Hid (elem (p : Int) (k : Int) = true) := elem_iff.2 ⟨HP.out, by omega, hlt⟩
        have m1 : Hid (macOk (p : Int) [(k : Int)] x (nM (p : Int) [(k : Int)] x (nth l 2) 0) = true) := forged_1 hka.out hex.out (by omega)
        have m2 : Hid (macOk (p : Int) [(k : Int)] ((x + (1 + e0)) % (p : Int)) (nM (p : Int) [(k : Int)] x (nth l 2) 0) = decide ((k : Int) = 0)) := forged_2 hka.out hex.out hey.out hne.out (by omega)
        go_wp2_with fail
        generalize hw4 : World.alloc _ _ = w4
        have z4 : w3.heap.size + 1 + 1 ≤ w4.heap.size := by rw [← hw4]; simp
        have B4 : Below w.heap.size w w4 := by rw [← hw4]; repeat (with_reducible (first | assumption | exact Below.refl _ _ | refine Below.alloc ?_ (by first | omega | (simp; done) | (simp; omega)) _ | refine Below.setCell ?_ (by first | omega | (simp; done) | (simp; omega)) _ | refine Below.drew ?_ | refine below_drewN ?_ _))
        have hK : ∀ k, k < w3.heap.size → w4.heap[k]? = w3.heap[k]? := by
          intro k hk; rw [← hw4]
          repeat (first | rfl | refine (Below.heap_alloc _ _ _ (by first | omega | (simp; omega))).trans ?_)
        have rq_ := rq.keepBlock (w' := w4) (by omega) (fun k h1 h2 => hK k  (by have := rq.2.1; omega))
        clear rq; have rq := rq_; clear rq_
        have xl_ : Box w4 (w3.heap.size) #[.int .i64 (k : Int)] 3 := (by rw [← hw4]; exact ((Box.new (g := w3.heap.size) _ #[.int .i64 (k : Int)] 3 (by simp)).alloc _))
        have xl := xl_; clear xl_
        have xk_ : Box w4 (w3.heap.size + 1) #[.int .i64 (p : Int), .slice (some ⟨w3.heap.size, 0, none⟩) 1 1] 33 := (by rw [← hw4]; exact (Box.new (g := w3.heap.size + 1) _ #[.int .i64 (p : Int), .slice (some ⟨w3.heap.size, 0, none⟩) 1 1] 33 (by simp)))
        have xk := xk_; clear xk_
        clear hw4 hK
        have rk := OwnL.lit1 xl
        have hll := HL.out
        obtain ⟨cxk_0, cxk_1, fxk_0, fxk_1⟩ := xk.two
        have l_xk_0 : w3.heap.size + 1 < w4.heap.size := by omega
        go_wp2_with fail
        clear cxk_0 cxk_1 fxk_0 fxk_1 l_xk_0
        refine wp_region_M [12, 13] (w4.heap.size) 14 (S := fun W => Below w.heap.size w W ∧ Below w4.heap.size w4 W ∧ W.cell? ⟨w3.heap.size + 1, 0, none⟩ = some (.int .i64 (p : Int)) ∧ W.cell? ⟨w3.heap.size + 1, 1, none⟩ = some (.slice (some ⟨w3.heap.size, 0, none⟩) 1 1) ∧ W.cell? ⟨gp, op + 2, none⟩ = some (.int .i64 (nth l 2))) (by kernel_rfl) (by rfl) (fun W hW => ⟨Below.trans (b := _) (by repeat (with_reducible (first | assumption | exact Below.refl _ _ | refine Below.alloc ?_ (by first | omega | (simp; done) | (simp; omega)) _ | refine Below.setCell ?_ (by first | omega | (simp; done) | (simp; omega)) _ | refine Below.drew ?_ | refine below_drewN ?_ _))) (Below.mono hW (by first | omega | (simp [size_drew]; done) | (simp [size_drew]; omega))), Below.trans (b := _) (by repeat (with_reducible (first | assumption | exact Below.refl _ _ | refine Below.alloc ?_ (by first | omega | (simp; done) | (simp; omega)) _ | refine Below.setCell ?_ (by first | omega | (simp; done) | (simp; omega)) _ | refine Below.drew ?_ | refine below_drewN ?_ _))) (Below.mono hW (by first | omega | (simp [size_drew]; done) | (simp [size_drew]; omega))), (Box.below xk.drew hW (by first | omega | (simp [size_drew]; done) | (simp [size_drew]; omega))).two.1, (Box.below xk.drew hW (by first | omega | (simp [size_drew]; done) | (simp [size_drew]; omega))).two.2.1, (OwnL.cellAt ((rq.drew).below hW) 2 (by omega))⟩) (by first | omega | (simp [size_drew]; done) | (simp [size_drew]; omega)) (fun hS hG => ?_)
        (try dsimp only at hS)
        refine pendM 10 10 #[.slice none 0 0, .slice none 0 0] 38 (by simp only [List.getElem?_toArray, List.getElem?_cons_succ, List.getElem?_cons_zero] <;> rfl) (by kernel_rfl) (by exact fun _ _ _ _ h => h) (by intro a W; unfold ptr; go_simp; (first | done | rfl)) hG ?_
        refine pendM 11 11 #[.int .i64 0, .int .i64 0] 40 (by simp only [List.getElem?_toArray, List.getElem?_cons_succ, List.getElem?_cons_zero] <;> rfl) (by kernel_rfl) (by exact fun _ _ _ _ h => h) (by intro a W; unfold ptr; go_simp; (first | done | rfl)) hG ?_
        (refine tkM 0 hG hS ?_; (try simp only [Act.put, List.setIfInBounds_toArray, List.set_cons_zero, List.set_cons_succ]))
        (refine tkM 1 hG hS ?_; (try simp only [Act.put, List.setIfInBounds_toArray, List.set_cons_zero, List.set_cons_succ]))
        (refine tkM 2 hG hS ?_; (try simp only [Act.put, List.setIfInBounds_toArray, List.set_cons_zero, List.set_cons_succ]))
        (refine tkM 3 hG hS ?_; (try simp only [Act.put, List.setIfInBounds_toArray, List.set_cons_zero, List.set_cons_succ]))
        (refine tkM 4 hG hS ?_; (try simp only [Act.put, List.setIfInBounds_toArray, List.set_cons_zero, List.set_cons_succ]))
        (refine tkM 5 hG hS ?_; (try simp only [Act.put, List.setIfInBounds_toArray, List.set_cons_zero, List.set_cons_succ]))
        refine callM hG (i := 6) (by simp only [List.getElem?_toArray, List.getElem?_cons_succ, List.getElem?_cons_zero] <;> rfl) (by kernel_rfl) (by rfl) (by rfl) (by intro W hW; have hSw := hS W hW; (try dsimp only at hSw); go_simp; (first | done | with_reducible rfl | exact ⟨rfl, rfl⟩)) ?_
        intro w5 b5
        have B5 : Below w.heap.size w w5 := (hS w5 b5).1
        have z5 := Below.size b5
        (try simp only [World.size_alloc, World.size_setCell, size_drew] at z5)
        have rq_ := (rq.drew.below b5)
        clear rq; have rq := rq_; clear rq_
        have rk_ := (rk.drew.below b5)
        clear rk; have rk := rk_; clear rk_
        have xk_ : Box w5 (w3.heap.size + 1) #[.int .i64 (p : Int), .slice (some ⟨w3.heap.size, 0, none⟩) 1 1] 33 := (Box.b xk.drew b5)
        clear xk; have xk := xk_; clear xk_
        clear hS hG
        go_at_call 38
        refine (iAuthNew_L (p : Int) rk.rd (by simp) x (nth l 2) 0).mono ?_
        rintro e w6 ⟨vA0, vn0, vc0, vA1, vn1, vc1, rfl, rv, b6⟩
        refine ⟨_, rfl, b6, fun hG => ?_⟩
        have z6 := Below.size b6
        have B6 : Below w.heap.size w w6 := Below.t b6
        have rq_ := (rq.below b6)
        clear rq; have rq := rq_; clear rq_
        have rk_ := (rk.below b6)
        clear rk; have rk := rk_; clear rk_
        have xk_ : Box w6 (w3.heap.size + 1) #[.int .i64 (p : Int), .slice (some ⟨w3.heap.size, 0, none⟩) 1 1] 33 := (Box.b xk b6)
        clear xk; have xk := xk_; clear xk_
        (try simp only [Act.put, List.setIfInBounds_toArray, List.set_cons_zero, List.set_cons_succ])
        have hS : ∀ W, Later w6 W → (Below w.heap.size w W ∧ Below w6.heap.size w6 W ∧ W.cell? ⟨w3.heap.size + 1, 0, none⟩ = some (.int .i64 (p : Int)) ∧ W.cell? ⟨w3.heap.size + 1, 1, none⟩ = some (.slice (some ⟨w3.heap.size, 0, none⟩) 1 1) ∧ W.cell? ⟨gp, op + 2, none⟩ = some (.int .i64 (nth l 2))) := fun W hW => ⟨Below.trans (b := _) (by repeat (with_reducible (first | assumption | exact Below.refl _ _ | refine Below.alloc ?_ (by first | omega | (simp; done) | (simp; omega)) _ | refine Below.setCell ?_ (by first | omega | (simp; done) | (simp; omega)) _ | refine Below.drew ?_ | refine below_drewN ?_ _))) (Below.mono hW (by first | omega | (simp [size_drew]; done) | (simp [size_drew]; omega))), Below.trans (b := _) (by repeat (with_reducible (first | assumption | exact Below.refl _ _ | refine Below.alloc ?_ (by first | omega | (simp; done) | (simp; omega)) _ | refine Below.setCell ?_ (by first | omega | (simp; done) | (simp; omega)) _ | refine Below.drew ?_ | refine below_drewN ?_ _))) (Below.mono hW (by first | omega | (simp [size_drew]; done) | (simp [size_drew]; omega))), (Box.below xk hW (by first | omega | (simp [size_drew]; done) | (simp [size_drew]; omega))).two.1, (Box.below xk hW (by first | omega | (simp [size_drew]; done) | (simp [size_drew]; omega))).two.2.1, (OwnL.cellAt ((rq).below hW) 2 (by omega))⟩
        (refine tkM 7 hG hS ?_; (try simp only [Act.put, List.setIfInBounds_toArray, List.set_cons_zero, List.set_cons_succ]))
        (refine tkM 8 hG hS ?_; (try simp only [Act.put, List.setIfInBounds_toArray, List.set_cons_zero, List.set_cons_succ]))
        (refine tkY 9 hG ?_; (try simp only [Act.put, List.setIfInBounds_toArray, List.set_cons_zero, List.set_cons_succ]))
        refine storeM (z := 12) (by simp only [List.getElem?_toArray, List.getElem?_cons_succ, List.getElem?_cons_zero] <;> rfl) (by kernel_rfl) (by rfl) (by rfl) ?_
        intro w7 b7
        have B7 : Below w.heap.size w w7 := (hS w7 b7).1
        have z7 := Below.size b7
        (try simp only [World.size_alloc, World.size_setCell, size_drew] at z7)
        have rq_ := (rq.below b7)
        clear rq; have rq := rq_; clear rq_
        have rk_ := (rk.below b7)
        clear rk; have rk := rk_; clear rk_
        have rv_ := (rv.below b7)
        clear rv; have rv := rv_; clear rv_
        have xk_ : Box w7 (w3.heap.size + 1) #[.int .i64 (p : Int), .slice (some ⟨w3.heap.size, 0, none⟩) 1 1] 33 := (Box.b xk b7)
        clear xk; have xk := xk_; clear xk_
        clear hS hG
        refine Zc.cons fun gxt xt nxt => ?_
        have nxt_0 := nxt (w5.heap.size, w6.heap.size) (by simp)
        dsimp only at nxt_0 xt
        have nxt_1 := nxt (0, w4.heap.size) (by simp)
        dsimp only at nxt_1 xt
        clear nxt
        refine Zc.cons fun gxv xv nxv => ?_
        have nxv_0 := nxv (gxt, gxt + 1) (by simp)
        dsimp only at nxv_0 xv
        have nxv_1 := nxv (w5.heap.size, w6.heap.size) (by simp)
        dsimp only at nxv_1 xv
        have nxv_2 := nxv (0, w4.heap.size) (by simp)
        dsimp only at nxv_2 xv
        clear nxv
        refine Zc.nil ?_
        (try unfold ptr)
        (try simp only [Act.put, List.setIfInBounds_toArray, List.set_cons_zero, List.set_cons_succ])
        have lxv := xv.lt
        have lxt := xt.lt
        obtain ⟨cxv_0, cxv_1, fxv_0, fxv_1⟩ := xv.two
        obtain ⟨cxt_0, cxt_1, fxt_0, fxt_1⟩ := xt.two
        have ne_xt_xv : gxt ≠ gxv := by omega
        have ne_xv_xt : gxv ≠ gxt := by omega
        refine ⟨_, by go_simp; (first | done | with_reducible rfl | exact ⟨rfl, rfl⟩), ?_⟩
        (try simp only [Act.put, List.setIfInBounds_toArray, List.set_cons_zero, List.set_cons_succ])
        refine skipAny (i := 13) (by simp only [List.getElem?_toArray, List.getElem?_cons_succ, List.getElem?_cons_zero] <;> rfl) (by kernel_rfl) (by rfl) (by go_simp; (first | done | with_reducible rfl | exact ⟨rfl, rfl⟩)) ?_
        (try simp only [Act.put, List.setIfInBounds_toArray, List.set_cons_zero, List.set_cons_succ])
        refine wpAny_done (by kernel_rfl) ?_ _
        clear cxv_0 cxv_1 fxv_0 fxv_1 cxt_0 cxt_1 fxt_0 fxt_1 ne_xt_xv ne_xv_xt
        generalize hw8 : World.setCell _ _ _ = w8
        have z8 : w7.heap.size ≤ w8.heap.size := by rw [← hw8]; simp
        have B8 : Below w.heap.size w w8 := by rw [← hw8]; repeat (with_reducible (first | assumption | exact Below.refl _ _ | refine Below.alloc ?_ (by first | omega | (simp; done) | (simp; omega)) _ | refine Below.setCell ?_ (by first | omega | (simp; done) | (simp; omega)) _ | refine Below.drew ?_ | refine below_drewN ?_ _))
        have hK : ∀ k, k ≠ gxv → k ≠ gxt → k < w7.heap.size → w8.heap[k]? = w7.heap[k]? := by
          intro k h0 h1 _; rw [← hw8]
          repeat (first | rfl | refine (Below.heap_setCell _ _ _ _ (by first | exact h0 | exact h1)).trans ?_)
        have rq_ := rq.keepBlock z8 (fun k h1 h2 => hK k (by omega) (by omega) (by have := rq.2.1; omega))
        clear rq; have rq := rq_; clear rq_
        have rk_ := rk.keepBlock z8 (fun k h1 h2 => hK k (by omega) (by omega) (by have := rk.2.1; omega))
        clear rk; have rk := rk_; clear rk_
        have rv_ := rv.keepBlock z8 (fun k h1 h2 => hK k (by omega) (by omega) (by have := rv.2.1; omega))
        clear rv; have rv := rv_; clear rv_
        have xk_ : Box w8 (w3.heap.size + 1) #[.int .i64 (p : Int), .slice (some ⟨w3.heap.size, 0, none⟩) 1 1] 33 := (by rw [← hw8]; exact ((((xk.far (by omega)).far (by omega)).far (by omega)).far (by omega)))
        clear xk; have xk := xk_; clear xk_
        have xt_ : Box w8 (gxt) #[.int .i64 (nth l 2), .int .i64 (nT (p : Int) [(k : Int)] x (nth l 2) 0)] 40 := (by rw [← hw8]; exact ((((xt.far (by omega)).far (by omega)).setAt (i := 0) (v := .int .i64 (nth l 2)) (ds := #[.int .i64 (nth l 2), .int .i64 0]) (by simp)).setAt (i := 1) (v := .int .i64 (nT (p : Int) [(k : Int)] x (nth l 2) 0)) (ds := #[.int .i64 (nth l 2), .int .i64 (nT (p : Int) [(k : Int)] x (nth l 2) 0)]) (by simp)))
        clear xt; have xt := xt_; clear xt_
        have xv_ : Box w8 (gxv) #[.slice vA0 vn0 vc0, .slice vA1 vn1 vc1] 38 := (by rw [← hw8]; exact ((((xv.setAt (i := 0) (v := .slice vA0 vn0 vc0) (ds := #[.slice vA0 vn0 vc0, .slice none 0 0]) (by simp)).setAt (i := 1) (v := .slice vA1 vn1 vc1) (ds := #[.slice vA0 vn0 vc0, .slice vA1 vn1 vc1]) (by simp)).far (by omega)).far (by omega)))
        clear xv; have xv := xv_; clear xv_
        clear hw8 hK
        obtain ⟨cxk_0, cxk_1, fxk_0, fxk_1⟩ := xk.two
        have l_xk_0 : w3.heap.size + 1 < w8.heap.size := by omega
        obtain ⟨cxv_0, cxv_1, fxv_0, fxv_1⟩ := xv.two
        have l_xv_0 : gxv < w8.heap.size := by omega
        go_wp2_with fail
        refine (iMacCheck_L (p : Int) rk.rd (by simp) (x) rv.rd (Nat.le_trans (nS_len _ _ _ _ _) (by omega)) (Nat.le_trans (nM_len _ _ _ _ _) (by omega))).mono ?_
        rintro e w9 ⟨rfl, b9⟩
        clear cxk_0 cxk_1 fxk_0 fxk_1 l_xk_0 cxv_0 cxv_1 fxv_0 fxv_1 l_xv_0
        have z9 := b9.size
        try simp only [World.size_alloc, World.size_setCell, size_drew] at z9
        have B9 : Below w.heap.size w w9 := Below.t b9
        have rq_ := rq.below b9
        clear rq; have rq := rq_; clear rq_
        have rk_ := rk.below b9
        clear rk; have rk := rk_; clear rk_
        have rv_ := rv.below b9
        clear rv; have rv := rv_; clear rv_
        have xk_ : Box w9 (w3.heap.size + 1) #[.int .i64 (p : Int), .slice (some ⟨w3.heap.size, 0, none⟩) 1 1] 33 := xk.below b9 (by first | omega | (simp [size_drew]; done) | (simp [size_drew]; omega))
        clear xk; have xk := xk_; clear xk_
        have xt_ : Box w9 (gxt) #[.int .i64 (nth l 2), .int .i64 (nT (p : Int) [(k : Int)] x (nth l 2) 0)] 40 := xt.below b9 (by first | omega | (simp [size_drew]; done) | (simp [size_drew]; omega))
        clear xt; have xt := xt_; clear xt_
        have xv_ : Box w9 (gxv) #[.slice vA0 vn0 vc0, .slice vA1 vn1 vc1] 38 := xv.below b9 (by first | omega | (simp [size_drew]; done) | (simp [size_drew]; omega))
        clear xv; have xv := xv_; clear xv_
        rw [m1.out]
        have hw1 : IntKind.i64.wrap (x + (1 + e0)) = x + (1 + e0) := by (rw [IntKind.wrap_i64]; (first | omega | (unfold wrap64; omega)))
        have ht1 : (x + (1 + e0)).tmod (p : Int) = (x + (1 + e0)) % (p : Int) := Int.tmod_eq_emod_of_nonneg (by omega)
        have hp0 : ¬ p = 0 := by omega
        by_cases hk0 : (k : Int) = 0
        · have m3 := Lib.hid (m2.out.trans (decide_eq_true hk0))
          obtain ⟨cxk_0, cxk_1, fxk_0, fxk_1⟩ := xk.two
          have l_xk_0 : w3.heap.size + 1 < w9.heap.size := by omega
          obtain ⟨cxv_0, cxv_1, fxv_0, fxv_1⟩ := xv.two
          have l_xv_0 : gxv < w9.heap.size := by omega
          go_wp2_with fail
          clear cxk_0 cxk_1 fxk_0 fxk_1 l_xk_0 cxv_0 cxv_1 fxv_0 fxv_1 l_xv_0
          refine wp_region_held_drew (S := fun W => W.cell? ⟨w3.heap.size + 1, 0, none⟩ = some (.int .i64 (p : Int)) ∧ W.cell? ⟨w3.heap.size + 1, 1, none⟩ = some (.slice (some ⟨w3.heap.size, 0, none⟩) 1 1) ∧ W.cell? ⟨gxv, 0, none⟩ = some (.slice vA0 vn0 vc0) ∧ W.cell? ⟨gxv, 1, none⟩ = some (.slice vA1 vn1 vc1)) (by kernel_rfl) ⟨xk.drew.two.1, xk.drew.two.2.1, xv.drew.two.1, xv.drew.two.2.1⟩ (fun hS => ?_)
          (refine tk 0 hS ?_; (try simp only [Act.put, List.setIfInBounds_toArray, List.set_cons_zero, List.set_cons_succ]))
          (refine tk 1 hS ?_; (try simp only [Act.put, List.setIfInBounds_toArray, List.set_cons_zero, List.set_cons_succ]))
          (refine tk 2 hS ?_; (try simp only [Act.put, List.setIfInBounds_toArray, List.set_cons_zero, List.set_cons_succ]))
          (refine tk 3 hS ?_; (try simp only [Act.put, List.setIfInBounds_toArray, List.set_cons_zero, List.set_cons_succ]))
          (refine tk 4 hS ?_; (try simp only [Act.put, List.setIfInBounds_toArray, List.set_cons_zero, List.set_cons_succ]))
          (refine tk 5 hS ?_; (try simp only [Act.put, List.setIfInBounds_toArray, List.set_cons_zero, List.set_cons_succ]))
          (refine tk 6 hS ?_; (try simp only [Act.put, List.setIfInBounds_toArray, List.set_cons_zero, List.set_cons_succ]))
          refine on 7 ?_
          refine callH (by go_simp; (first | done | with_reducible rfl | exact ⟨rfl, rfl⟩)) ?_
          go_at_call 39
          refine (iMacCheck_L (p : Int) rk.drew.rd (by simp) ((x + (1 + e0)) % (p : Int)) rv.drew.rd (Nat.le_trans (nS_len _ _ _ _ _) (by omega)) (Nat.le_trans (nM_len _ _ _ _ _) (by omega))).mono ?_
          rintro e w10 ⟨rfl, b10⟩
          clear hS
          have z10 := Below.size b10
          (try simp only [World.size_alloc, World.size_setCell, size_drew] at z10)
          have B10 : Below w.heap.size w w10 := Below.t b10
          have rq_ := (rq.drew.below b10)
          clear rq; have rq := rq_; clear rq_
          have rk_ := (rk.drew.below b10)
          clear rk; have rk := rk_; clear rk_
          have rv_ := (rv.drew.below b10)
          clear rv; have rv := rv_; clear rv_
          have xk_ : Box w10 (w3.heap.size + 1) #[.int .i64 (p : Int), .slice (some ⟨w3.heap.size, 0, none⟩) 1 1] 33 := (Box.b xk.drew b10)
          clear xk; have xk := xk_; clear xk_
          have xt_ : Box w10 (gxt) #[.int .i64 (nth l 2), .int .i64 (nT (p : Int) [(k : Int)] x (nth l 2) 0)] 40 := (Box.b xt.drew b10)
          clear xt; have xt := xt_; clear xt_
          have xv_ : Box w10 (gxv) #[.slice vA0 vn0 vc0, .slice vA1 vn1 vc1] 38 := (Box.b xv.drew b10)
          clear xv; have xv := xv_; clear xv_
          refine ⟨.bool true, by rw [m3.out], ⟨xk.two.1, xk.two.2.1, xv.two.1, xv.two.2.1⟩, fun hS => ?_⟩
          (try simp only [Act.put, List.setIfInBounds_toArray, List.set_cons_zero, List.set_cons_succ])
          clear hS
          refine wpAnyH_done (by kernel_rfl) ?_ _
          go_wp2
          go_roundw
          case rel => exact ⟨k + 1, by omega, by go_num, by (first | (go_num; done) | (simp; omega) | (congr 1; omega)), rq, B10⟩
          case measure => simp [intOf]; omega
        · have m3 := Lib.hid (m2.out.trans (decide_eq_false hk0))
          obtain ⟨cxk_0, cxk_1, fxk_0, fxk_1⟩ := xk.two
          have l_xk_0 : w3.heap.size + 1 < w9.heap.size := by omega
          obtain ⟨cxv_0, cxv_1, fxv_0, fxv_1⟩ := xv.two
          have l_xv_0 : gxv < w9.heap.size := by omega
          go_wp2_with fail
          clear cxk_0 cxk_1 fxk_0 fxk_1 l_xk_0 cxv_0 cxv_1 fxv_0 fxv_1 l_xv_0
          refine wp_region_held_drew (S := fun W => W.cell? ⟨w3.heap.size + 1, 0, none⟩ = some (.int .i64 (p : Int)) ∧ W.cell? ⟨w3.heap.size + 1, 1, none⟩ = some (.slice (some ⟨w3.heap.size, 0, none⟩) 1 1) ∧ W.cell? ⟨gxv, 0, none⟩ = some (.slice vA0 vn0 vc0) ∧ W.cell? ⟨gxv, 1, none⟩ = some (.slice vA1 vn1 vc1)) (by kernel_rfl) ⟨xk.drew.two.1, xk.drew.two.2.1, xv.drew.two.1, xv.drew.two.2.1⟩ (fun hS => ?_)
          (refine tk 0 hS ?_; (try simp only [Act.put, List.setIfInBounds_toArray, List.set_cons_zero, List.set_cons_succ]))
          (refine tk 1 hS ?_; (try simp only [Act.put, List.setIfInBounds_toArray, List.set_cons_zero, List.set_cons_succ]))
          (refine tk 2 hS ?_; (try simp only [Act.put, List.setIfInBounds_toArray, List.set_cons_zero, List.set_cons_succ]))
          (refine tk 3 hS ?_; (try simp only [Act.put, List.setIfInBounds_toArray, List.set_cons_zero, List.set_cons_succ]))
          (refine tk 4 hS ?_; (try simp only [Act.put, List.setIfInBounds_toArray, List.set_cons_zero, List.set_cons_succ]))
          (refine tk 5 hS ?_; (try simp only [Act.put, List.setIfInBounds_toArray, List.set_cons_zero, List.set_cons_succ]))
          (refine tk 6 hS ?_; (try simp only [Act.put, List.setIfInBounds_toArray, List.set_cons_zero, List.set_cons_succ]))
          refine on 7 ?_
          refine callH (by go_simp; (first | done | with_reducible rfl | exact ⟨rfl, rfl⟩)) ?_
          go_at_call 39
          refine (iMacCheck_L (p : Int) rk.drew.rd (by simp) ((x + (1 + e0)) % (p : Int)) rv.drew.rd (Nat.le_trans (nS_len _ _ _ _ _) (by omega)) (Nat.le_trans (nM_len _ _ _ _ _) (by omega))).mono ?_
          rintro e w10 ⟨rfl, b10⟩
          clear hS
          have z10 := Below.size b10
          (try simp only [World.size_alloc, World.size_setCell, size_drew] at z10)
          have B10 : Below w.heap.size w w10 := Below.t b10
          have rq_ := (rq.drew.below b10)
          clear rq; have rq := rq_; clear rq_
          have rk_ := (rk.drew.below b10)
          clear rk; have rk := rk_; clear rk_
          have rv_ := (rv.drew.below b10)
          clear rv; have rv := rv_; clear rv_
          have xk_ : Box w10 (w3.heap.size + 1) #[.int .i64 (p : Int), .slice (some ⟨w3.heap.size, 0, none⟩) 1 1] 33 := (Box.b xk.drew b10)
          clear xk; have xk := xk_; clear xk_
          have xt_ : Box w10 (gxt) #[.int .i64 (nth l 2), .int .i64 (nT (p : Int) [(k : Int)] x (nth l 2) 0)] 40 := (Box.b xt.drew b10)
          clear xt; have xt := xt_; clear xt_
          have xv_ : Box w10 (gxv) #[.slice vA0 vn0 vc0, .slice vA1 vn1 vc1] 38 := (Box.b xv.drew b10)
          clear xv; have xv := xv_; clear xv_
          refine ⟨.bool false, by rw [m3.out], ⟨xk.two.1, xk.two.2.1, xv.two.1, xv.two.2.1⟩, fun hS => ?_⟩
          (try simp only [Act.put, List.setIfInBounds_toArray, List.set_cons_zero, List.set_cons_succ])
          clear hS
          refine wpAnyH_done (by kernel_rfl) ?_ _
          go_wp2
          go_roundw
          case rel => exact ⟨k + 1, by omega, by go_num, by (first | (go_num; done) | (simp; omega) | (congr 1; omega)), rq, B10⟩
          case measure => simp [intOf]; omega
      · have hll := HL.out
        have cq3 := OwnL.cellAt rq 3 (by omega)
        have hkp : k = p := by omega
        have hm1 : ((min k 1 : Nat) : Int) = 1 := by omega
        go_wp2_with fail
        refine (iCountForgeries_L _ _ _).mono ?_
        rintro e w4 ⟨rfl, b4⟩
        rw [hcf.out]
        have B4 : Below w.heap.size w w4 := B3.trans (b4.mono z3)
        go_wp2
        go_ret
        exact ⟨rfl, B4⟩
end Go.Proofs.Ytllnnbmgdbinnaa

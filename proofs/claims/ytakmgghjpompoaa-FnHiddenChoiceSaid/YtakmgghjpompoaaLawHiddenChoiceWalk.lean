/- The walk of the law FnHiddenChoice. Printed by laws3.py. -/
import Derived.Test.YtakmgghjpompoaaOtLaw
import Derived.Test.YtakmgghjpompoaaMemC
import Derived.Test.YtakmgghjpompoaaDraw2
import Derived.Test.YtakmgghjpompoaaPlaces
import Derived.Test.YtakmgghjpompoaaOpenS
namespace Go.Proofs.Ytakmgghjpompoaa
set_option linter.unusedSimpArgs false
set_option linter.unusedVariables false
open Go.RowKit
set_option maxRecDepth 100000 in
set_option maxHeartbeats 10000000 in
theorem walk_FnHiddenChoice (A : Option Addr) (n c : Nat) (w : World) (hx : Bts0 w A n) :
    Calls Try.prog 17 #[.slice A n c] w fun e w' => e = .returned (.bool true) ∧ Below w.heap.size w w' := by
  by_cases hn : (1048576 : Int) < n
  · go_enter Try.func17, Try.ntmps17
    go_wp2_with fail
    refine (big_any _ _ _ _).mono ?_
    rintro e w1 ⟨rfl, rfl⟩
    go_wp2
    go_ret
    exact ⟨rfl, Below.refl _ _⟩
  · have hB0 : Bts w A n := ⟨by omega, hx.2⟩
    go_enter Try.func17, Try.ntmps17
    go_wp2_with fail
    refine (big_any _ _ _ _).mono ?_
    rintro e w_ ⟨rfl, rfl⟩
    go_wp2_with fail
    refine (DrawTape_any n c A _ hB0).mono ?_
    rintro e w1 ⟨ts, ta, hts, hta, rfl, b1⟩
    have B1 := b1
    have z1 := b1.size
    clear b1
    go_wp2_with fail
    refine (DrawPlaces_any n c A _ (hB0.keep fun _ a _ ha => (show Below w.heap.size w _ from by repeat (with_reducible (first | assumption | exact Below.refl _ _ | refine Below.alloc ?_ (by first | omega | (simp; done) | (simp; omega)) _ | refine Below.setCell ?_ (by first | omega | (simp; done) | (simp; omega)) _ | refine Below.drew ?_ | refine below_drewN ?_ _))).block _ ha)).mono ?_
    rintro e w2 ⟨v, l, rfl, hl, ha, ho, b2⟩
    have z2 := b2.size
    try simp only [World.size_alloc, World.size_setCell, size_drew] at z2
    have B2 : Below w.heap.size w w2 := Below.t b2
    have xt_ : Box w2 (w1.heap.size) #[.int .i64 (ts : Int), .int .i64 (ta : Int)] 65 := (Box.new (g := w1.heap.size) _ #[.int .i64 (ts : Int), .int .i64 (ta : Int)] 65 (by simp)).below b2 (by first | omega | (simp [size_drew]; done) | (simp [size_drew]; omega))
    have xt := xt_; clear xt_
    obtain ⟨Bp, dp, rfl, hI⟩ := ho.reads
    rw [hl] at hI ho ⊢
    obtain ⟨gp, op, rfl, hgp, _⟩ := hI.block (by omega)
    have rq : OwnL w2 (w1.heap.size + 1) w2.heap.size [(.slice (some ⟨gp, op, none⟩) 12 dp, .ints l)] := OwnL.one (d := .ints l) (show OwnD _ _ _ (.ints l) by unfold OwnD; (first | exact ho | (simp only [World.size_alloc] at ho; exact ho))) (by omega)
    have hgp1 := (ownIn rq)
    clear hI ho hgp
    have HA := Lib.hid ha
    have Hl := Lib.hid hl
    clear ha hl
    obtain ⟨cxt_0, cxt_1, fxt_0, fxt_1⟩ := xt.two
    have l_xt_0 : w1.heap.size < w2.heap.size := by omega
    go_wp2_with fail
    refine (iOtDeal_L (ts : Int) (ta : Int)).mono ?_
    rintro e w3 ⟨rfl, b3⟩
    clear cxt_0 cxt_1 fxt_0 fxt_1 l_xt_0
    have z3 := b3.size
    try simp only [World.size_alloc, World.size_setCell, size_drew] at z3
    have B3 : Below w.heap.size w w3 := Below.t b3
    have rq_ := rq.below b3
    clear rq; have rq := rq_; clear rq_
    have xt_ : Box w3 (w1.heap.size) #[.int .i64 (ts : Int), .int .i64 (ta : Int)] 65 := xt.below b3 (by first | omega | (simp [size_drew]; done) | (simp [size_drew]; omega))
    clear xt; have xt := xt_; clear xt_
    obtain ⟨hA, hB, hK, hR, hT⟩ := deal_new (s := (ts : Int)) (a := (ta : Int)) (by omega) (by omega)
    generalize dA (ts : Int) (ta : Int) = dA0 at *
    generalize dB (ts : Int) (ta : Int) = dB0 at *
    generalize dK (ts : Int) (ta : Int) = K0 at *
    generalize dR (ts : Int) (ta : Int) = R0 at *
    rw [hT]
    clear hT
    have HA1 := Lib.hid hA
    have HB1 := Lib.hid hB
    have HK1 := Lib.hid hK
    have HR1 := Lib.hid hR
    clear hA hB hK hR
    obtain ⟨q0l, q0h⟩ := HA.out (nth l 0) (by rw [nth_lt (by rw [Hl.out]; omega)]; exact List.getElem_mem _)
    obtain ⟨q1l, q1h⟩ := HA.out (nth l 1) (by rw [nth_lt (by rw [Hl.out]; omega)]; exact List.getElem_mem _)
    obtain ⟨q2l, q2h⟩ := HA.out (nth l 2) (by rw [nth_lt (by rw [Hl.out]; omega)]; exact List.getElem_mem _)
    have ht0 : (nth l 0).tmod 2 = nth l 0 % 2 := Int.tmod_eq_emod_of_nonneg q0l
    obtain ⟨b, hb⟩ : ∃ x, Hid (nth l 0 % 2 = x) := ⟨_, rfl⟩
    rw [hb.out] at ht0
    have hb1 := Lib.hid (show b = 0 ∨ b = 1 by have := hb.out; omega)
    have hm0 := Lib.hid (show 0 ≤ nth l 1 ∧ nth l 1 ≤ 65535 by omega)
    have hm1 := Lib.hid (show 0 ≤ nth l 2 ∧ nth l 2 ≤ 65535 by omega)
    have hh0 := Lib.hid (hidden_0 hm0.out hm1.out HA1.out HB1.out HK1.out)
    have hh1 := Lib.hid (hidden_1 hm0.out hm1.out HA1.out HB1.out HK1.out)
    clear q0h q1l q1h q2l q2h hm0 hm1
    have cq0 := ownCell (l := l) (g := gp) (o := op) (n := 12) (c := dp) rq (List.mem_cons_self) 0 (by rw [Hl.out]; omega)
    simp only [Nat.add_zero] at cq0
    have hgq := ownIn rq
    have lq_0 : gp < w3.heap.size := by omega
    have lq_1 : gp < w3.heap.size + 1 := by omega
    have lq_2 : gp < w3.heap.size + 1 + 1 := by omega
    have lq_3 : gp < w3.heap.size + 1 + 1 + 1 := by omega
    go_wp2_with fail
    clear cq0 hgq lq_0 lq_1 lq_2 lq_3
    generalize hw4 : World.alloc _ _ = w4
    have z4 : w3.heap.size + 1 + 1 + 1 ≤ w4.heap.size := by rw [← hw4]; simp
    have B4 : Below w.heap.size w w4 := by rw [← hw4]; repeat (with_reducible (first | assumption | exact Below.refl _ _ | refine Below.alloc ?_ (by first | omega | (simp; done) | (simp; omega)) _ | refine Below.setCell ?_ (by first | omega | (simp; done) | (simp; omega)) _ | refine Below.drew ?_ | refine below_drewN ?_ _))
    have hK : ∀ k, k < w3.heap.size → w4.heap[k]? = w3.heap[k]? := by
      intro k hk; rw [← hw4]
      repeat (first | rfl | refine (Below.heap_alloc _ _ _ (by first | omega | (simp; omega))).trans ?_)
    have rq_ := rq.keepBlock (w' := w4) (by omega) (fun k h1 h2 => hK k  (by have := rq.2.1; omega))
    clear rq; have rq := rq_; clear rq_
    have xt_ : Box w4 (w1.heap.size) #[.int .i64 (ts : Int), .int .i64 (ta : Int)] 65 := (by rw [← hw4]; exact (((xt.alloc _).alloc _).alloc _))
    clear xt; have xt := xt_; clear xt_
    have xs_ : Box w4 (w3.heap.size) #[.int .i64 dA0, .int .i64 dB0] 46 := (by rw [← hw4]; exact (((Box.new (g := w3.heap.size) _ #[.int .i64 dA0, .int .i64 dB0] 46 (by simp)).alloc _).alloc _))
    have xs := xs_; clear xs_
    have xr_ : Box w4 (w3.heap.size + 1) #[.int .i64 K0, .int .i64 R0] 31 := (by rw [← hw4]; exact ((Box.new (g := w3.heap.size + 1) _ #[.int .i64 K0, .int .i64 R0] 31 (by simp)).alloc _))
    have xr := xr_; clear xr_
    have xn_ : Box w4 (w3.heap.size + 1 + 1) #[.int .i64 (ts : Int), .int .i64 ((ta : Int) + 3)] 65 := (by rw [← hw4]; exact (Box.new (g := w3.heap.size + 1 + 1) _ #[.int .i64 (ts : Int), .int .i64 ((ta : Int) + 3)] 65 (by simp)))
    have xn := xn_; clear xn_
    clear hw4 hK
    obtain ⟨cxs_0, cxs_1, fxs_0, fxs_1⟩ := xs.two
    have l_xs_0 : w3.heap.size < w4.heap.size := by omega
    obtain ⟨cxr_0, cxr_1, fxr_0, fxr_1⟩ := xr.two
    have l_xr_0 : w3.heap.size + 1 < w4.heap.size := by omega
    go_wp2_with fail
    clear cxs_0 cxs_1 fxs_0 fxs_1 l_xs_0 cxr_0 cxr_1 fxr_0 fxr_1 l_xr_0
    refine wp_region_held_drew (S := fun W => W.cell? ⟨w3.heap.size, 0, none⟩ = some (.int .i64 dA0) ∧ W.cell? ⟨w3.heap.size, 1, none⟩ = some (.int .i64 dB0) ∧ W.cell? ⟨w3.heap.size + 1, 0, none⟩ = some (.int .i64 K0) ∧ W.cell? ⟨w3.heap.size + 1, 1, none⟩ = some (.int .i64 R0) ∧ W.cell? ⟨gp, op + 1, none⟩ = some (.int .i64 (nth l 1)) ∧ W.cell? ⟨gp, op + 2, none⟩ = some (.int .i64 (nth l 2))) (by kernel_rfl) ⟨xs.drew.two.1, xs.drew.two.2.1, xr.drew.two.1, xr.drew.two.2.1, (ownCell (l := l) (rq.drew) (List.mem_cons_self) 1 (by rw [Hl.out]; omega)), (ownCell (l := l) (rq.drew) (List.mem_cons_self) 2 (by rw [Hl.out]; omega))⟩ (fun hS => ?_)
    (refine tk 0 hS ?_; (try simp only [Act.put, layA, layB, layC]))
    (refine tk 1 hS ?_; (try simp only [Act.put, layA, layB, layC]))
    (refine tk 2 hS ?_; (try simp only [Act.put, layA, layB, layC]))
    (refine tk 3 hS ?_; (try simp only [Act.put, layA, layB, layC]))
    (refine tk 4 hS ?_; (try simp only [Act.put, layA, layB, layC]))
    (refine tk 5 hS ?_; (try simp only [Act.put, layA, layB, layC]))
    (refine tk 6 hS ?_; (try simp only [Act.put, layA, layB, layC]))
    (refine tk 7 hS ?_; (try simp only [Act.put, layA, layB, layC]))
    (refine tk 8 hS ?_; (try simp only [Act.put, layA, layB, layC]))
    refine on 9 ?_
    refine callH (by go_simp; (first | done | with_reducible rfl | exact ⟨rfl, rfl⟩)) ?_
    go_at_call 28
    refine (iOtAsk_any b K0 R0 _).mono ?_
    rintro e w5 ⟨rfl, b5⟩
    clear hS
    have z5 := Below.size b5
    (try simp only [World.size_alloc, World.size_setCell, size_drew] at z5)
    have B5 : Below w.heap.size w w5 := Below.t b5
    have rq_ := (rq.drew.below b5)
    clear rq; have rq := rq_; clear rq_
    have xt_ : Box w5 (w1.heap.size) #[.int .i64 (ts : Int), .int .i64 (ta : Int)] 65 := (Box.b xt.drew b5)
    clear xt; have xt := xt_; clear xt_
    have xs_ : Box w5 (w3.heap.size) #[.int .i64 dA0, .int .i64 dB0] 46 := (Box.b xs.drew b5)
    clear xs; have xs := xs_; clear xs_
    have xr_ : Box w5 (w3.heap.size + 1) #[.int .i64 K0, .int .i64 R0] 31 := (Box.b xr.drew b5)
    clear xr; have xr := xr_; clear xr_
    have xn_ : Box w5 (w3.heap.size + 1 + 1) #[.int .i64 (ts : Int), .int .i64 ((ta : Int) + 3)] 65 := (Box.b xn.drew b5)
    clear xn; have xn := xn_; clear xn_
    refine ⟨_, rfl, ⟨xs.two.1, xs.two.2.1, xr.two.1, xr.two.2.1, (ownCell (l := l) (rq) (List.mem_cons_self) 1 (by rw [Hl.out]; omega)), (ownCell (l := l) (rq) (List.mem_cons_self) 2 (by rw [Hl.out]; omega))⟩, fun hS => ?_⟩
    (try simp only [Act.put, layA, layB, layC])
    refine on 10 ?_
    refine callH (by go_simp; (first | done | with_reducible rfl | exact ⟨rfl, rfl⟩)) ?_
    go_at_call 38
    refine (iOtReply_any (nth l 1) (nth l 2) dA0 dB0 (otAsk b K0) _).mono ?_
    rintro e w6 ⟨rfl, b6⟩
    clear hS
    have z6 := Below.size b6
    (try simp only [World.size_alloc, World.size_setCell, size_drew] at z6)
    have B6 : Below w.heap.size w w6 := Below.t b6
    have rq_ := (rq.below b6)
    clear rq; have rq := rq_; clear rq_
    have xt_ : Box w6 (w1.heap.size) #[.int .i64 (ts : Int), .int .i64 (ta : Int)] 65 := (Box.b xt b6)
    clear xt; have xt := xt_; clear xt_
    have xs_ : Box w6 (w3.heap.size) #[.int .i64 dA0, .int .i64 dB0] 46 := (Box.b xs b6)
    clear xs; have xs := xs_; clear xs_
    have xr_ : Box w6 (w3.heap.size + 1) #[.int .i64 K0, .int .i64 R0] 31 := (Box.b xr b6)
    clear xr; have xr := xr_; clear xr_
    have xn_ : Box w6 (w3.heap.size + 1 + 1) #[.int .i64 (ts : Int), .int .i64 ((ta : Int) + 3)] 65 := (Box.b xn b6)
    clear xn; have xn := xn_; clear xn_
    refine ⟨.tuple #[.int .i64 (oE0 (nth l 1) (nth l 2) dA0 dB0 (otAsk b K0)), .int .i64 (oE1 (nth l 1) (nth l 2) dA0 dB0 (otAsk b K0))], by rfl, ⟨xs.two.1, xs.two.2.1, xr.two.1, xr.two.2.1, (ownCell (l := l) (rq) (List.mem_cons_self) 1 (by rw [Hl.out]; omega)), (ownCell (l := l) (rq) (List.mem_cons_self) 2 (by rw [Hl.out]; omega))⟩, fun hS => ?_⟩
    (try simp only [Act.put, layA, layB, layC])
    (refine tk 11 hS ?_; (try simp only [Act.put, layA, layB, layC]))
    (refine tk 12 hS ?_; (try simp only [Act.put, layA, layB, layC]))
    (refine tk 13 hS ?_; (try simp only [Act.put, layA, layB, layC]))
    (refine tk 14 hS ?_; (try simp only [Act.put, layA, layB, layC]))
    (refine tk 15 hS ?_; (try simp only [Act.put, layA, layB, layC]))
    clear hS
    refine wpAnyH_done (by kernel_rfl) ?_ _
    obtain ⟨e0, he0⟩ : ∃ x, Hid (oE0 (nth l 1) (nth l 2) dA0 dB0 (otAsk b K0) = x) := ⟨_, rfl⟩
    obtain ⟨e1, he1⟩ : ∃ x, Hid (oE1 (nth l 1) (nth l 2) dA0 dB0 (otAsk b K0) = x) := ⟨_, rfl⟩
    have hoth := Lib.hid (show bits .xor .i64 (if b = 0 then e1 else e0) (if b = 0 then nth l 2 else nth l 1) = (if K0 = 1 then dA0 else dB0) by
      rcases hb1.out with rfl | rfl
      · rw [if_pos rfl, if_pos rfl, ← he1.out]; exact hh0.out
      · rw [if_neg (by omega), if_neg (by omega), ← he0.out]; exact hh1.out)
    rw [he0.out, he1.out]
    clear he0 he1 hh0 hh1 hb ht0 q0l
    have hx0 : bits .and .i64 0 1 = 0 := by decide
    have hx1 : bits .and .i64 1 1 = 1 := by decide
    have hR2 := Lib.hid HR1.out
    rcases hb1.out with rfl | rfl <;> rcases HK1.out with hk | hk
    all_goals
      have hx : bits .and .i64 K0 1 = _ := (congrArg (fun z => bits .and .i64 z 1) hk).trans (by first | exact hx0 | exact hx1)
      have hot := hoth.out
      have hRR := HR1.out
      rw [hk] at hot hRR
      simp only [if_true, if_false, show ¬ ((1 : Int) = 0) by omega, show ¬ ((0 : Int) = 1) by omega] at hot hRR
      replace hRR := Lib.hid hRR
      replace hot := Lib.hid hot
      replace hx := Lib.hid hx
      clear hoth HR1 hR2 hx0 hx1 hk HK1 hb1
      obtain ⟨cxs_0, cxs_1, fxs_0, fxs_1⟩ := xs.two
      have l_xs_0 : w3.heap.size < w6.heap.size := by omega
      obtain ⟨cxr_0, cxr_1, fxr_0, fxr_1⟩ := xr.two
      have l_xr_0 : w3.heap.size + 1 < w6.heap.size := by omega
      go_wp2_with fail
      clear cxs_0 cxs_1 fxs_0 fxs_1 l_xs_0 cxr_0 cxr_1 fxr_0 fxr_1 l_xr_0
      refine wp_region_held_drew (S := fun W => W.cell? ⟨w3.heap.size, 0, none⟩ = some (.int .i64 dA0) ∧ W.cell? ⟨w3.heap.size, 1, none⟩ = some (.int .i64 dB0) ∧ W.cell? ⟨w3.heap.size + 1, 0, none⟩ = some (.int .i64 K0) ∧ W.cell? ⟨w3.heap.size + 1, 1, none⟩ = some (.int .i64 R0) ∧ W.cell? ⟨gp, op + 1, none⟩ = some (.int .i64 (nth l 1)) ∧ W.cell? ⟨gp, op + 2, none⟩ = some (.int .i64 (nth l 2))) (by kernel_rfl) ⟨xs.drew.two.1, xs.drew.two.2.1, xr.drew.two.1, xr.drew.two.2.1, (ownCell (l := l) (rq.drew) (List.mem_cons_self) 1 (by rw [Hl.out]; omega)), (ownCell (l := l) (rq.drew) (List.mem_cons_self) 2 (by rw [Hl.out]; omega))⟩ (fun hS => ?_)
      (refine tk 0 hS ?_; (try simp only [Act.put, layA, layB, layC]))
      (refine tk 1 hS ?_; (try simp only [Act.put, layA, layB, layC]))
      (refine tk 3 hS ?_; (try simp only [Act.put, layA, layB, layC]))
      (refine tk 6 hS ?_; (try simp only [Act.put, layA, layB, layC]))
      (refine tk 7 hS ?_; (try simp only [Act.put, layA, layB, layC]))
      (refine tk 8 hS ?_; (try simp only [Act.put, layA, layB, layC]))
      (refine tk 9 hS ?_; (try simp only [Act.put, layA, layB, layC]))
      (refine tk 10 hS ?_; (try simp only [Act.put, layA, layB, layC]))
      (refine tk 11 hS ?_; (try simp only [Act.put, layA, layB, layC]))
      (refine tk 13 hS ?_; (try simp only [Act.put, layA, layB, layC]))
      refine forkH (i := 2) (j := 12) (by simp only [List.getElem?_toArray, List.getElem?_cons_succ, List.getElem?_cons_zero] <;> rfl) (by simp only [List.getElem?_toArray, List.getElem?_cons_succ, List.getElem?_cons_zero] <;> rfl) (by kernel_rfl) (by rfl) (by rfl) ?_ ?_
      · refine valueH (by go_simp; (first | done | with_reducible rfl | exact ⟨rfl, rfl⟩)) ?_ (fun hS_ => ?_)
        · exact ⟨(xs.alloc _).drew.two.1, (xs.alloc _).drew.two.2.1, (xr.alloc _).drew.two.1, (xr.alloc _).drew.two.2.1, (ownCell (l := l) ((rq.alloc _).drew) (List.mem_cons_self) 1 (by rw [Hl.out]; omega)), (ownCell (l := l) ((rq.alloc _).drew) (List.mem_cons_self) 2 (by rw [Hl.out]; omega))⟩
        clear hS
        have hS := hS_
        clear hS_
        refine wpAnyH_mono (S2 := fun W => W.cell? ⟨w6.heap.size, 0, none⟩ = some (.int .i64 e1) ∧ W.cell? ⟨w6.heap.size, 1, none⟩ = some (.int .i64 e0) ∧ W.cell? ⟨w3.heap.size, 0, none⟩ = some (.int .i64 dA0) ∧ W.cell? ⟨w3.heap.size, 1, none⟩ = some (.int .i64 dB0) ∧ W.cell? ⟨w3.heap.size + 1, 0, none⟩ = some (.int .i64 K0) ∧ W.cell? ⟨w3.heap.size + 1, 1, none⟩ = some (.int .i64 R0) ∧ W.cell? ⟨gp, op + 1, none⟩ = some (.int .i64 (nth l 1)) ∧ W.cell? ⟨gp, op + 2, none⟩ = some (.int .i64 (nth l 2))) (fun W h => h.2.2) ?_
        clear hS
        have hS : (fun W : World => W.cell? ⟨w6.heap.size, 0, none⟩ = some (.int .i64 e1) ∧ W.cell? ⟨w6.heap.size, 1, none⟩ = some (.int .i64 e0) ∧ W.cell? ⟨w3.heap.size, 0, none⟩ = some (.int .i64 dA0) ∧ W.cell? ⟨w3.heap.size, 1, none⟩ = some (.int .i64 dB0) ∧ W.cell? ⟨w3.heap.size + 1, 0, none⟩ = some (.int .i64 K0) ∧ W.cell? ⟨w3.heap.size + 1, 1, none⟩ = some (.int .i64 R0) ∧ W.cell? ⟨gp, op + 1, none⟩ = some (.int .i64 (nth l 1)) ∧ W.cell? ⟨gp, op + 2, none⟩ = some (.int .i64 (nth l 2))) _ := ⟨(Box.new (g := w6.heap.size) _ #[.int .i64 e1, .int .i64 e0] 3 (by simp)).drew.two.1, (Box.new (g := w6.heap.size) _ #[.int .i64 e1, .int .i64 e0] 3 (by simp)).drew.two.2.1, (xs.alloc _).drew.two.1, (xs.alloc _).drew.two.2.1, (xr.alloc _).drew.two.1, (xr.alloc _).drew.two.2.1, (ownCell (l := l) ((rq.alloc _).drew) (List.mem_cons_self) 1 (by rw [Hl.out]; omega)), (ownCell (l := l) ((rq.alloc _).drew) (List.mem_cons_self) 2 (by rw [Hl.out]; omega))⟩
        (try simp only [Act.put, layA, layB, layC])
        (refine tk 4 hS ?_; (try simp only [Act.put, layA, layB, layC]))
        (refine tk 5 hS ?_; (try simp only [Act.put, layA, layB, layC]))
        refine on 12 ?_
        refine valueH (by go_simp; (first | done | with_reducible rfl | exact ⟨rfl, rfl⟩)) ?_ (fun hS_ => ?_)
        · exact ⟨((Box.new (g := w6.heap.size) _ #[.int .i64 e1, .int .i64 e0] 3 (by simp)).alloc _).drew.two.1, ((Box.new (g := w6.heap.size) _ #[.int .i64 e1, .int .i64 e0] 3 (by simp)).alloc _).drew.two.2.1, ((xs.alloc _).alloc _).drew.two.1, ((xs.alloc _).alloc _).drew.two.2.1, ((xr.alloc _).alloc _).drew.two.1, ((xr.alloc _).alloc _).drew.two.2.1, (ownCell (l := l) (((rq.alloc _).alloc _).drew) (List.mem_cons_self) 1 (by rw [Hl.out]; omega)), (ownCell (l := l) (((rq.alloc _).alloc _).drew) (List.mem_cons_self) 2 (by rw [Hl.out]; omega))⟩
        clear hS
        have hS := hS_
        clear hS_
        refine wpAnyH_mono (S2 := fun W => W.cell? ⟨w6.heap.size + 1, 0, none⟩ = some (.int .i64 (nth l 2)) ∧ W.cell? ⟨w6.heap.size + 1, 1, none⟩ = some (.int .i64 (nth l 1)) ∧ W.cell? ⟨w6.heap.size, 0, none⟩ = some (.int .i64 e1) ∧ W.cell? ⟨w6.heap.size, 1, none⟩ = some (.int .i64 e0) ∧ W.cell? ⟨w3.heap.size, 0, none⟩ = some (.int .i64 dA0) ∧ W.cell? ⟨w3.heap.size, 1, none⟩ = some (.int .i64 dB0) ∧ W.cell? ⟨w3.heap.size + 1, 0, none⟩ = some (.int .i64 K0) ∧ W.cell? ⟨w3.heap.size + 1, 1, none⟩ = some (.int .i64 R0) ∧ W.cell? ⟨gp, op + 1, none⟩ = some (.int .i64 (nth l 1)) ∧ W.cell? ⟨gp, op + 2, none⟩ = some (.int .i64 (nth l 2))) (fun W h => h.2.2) ?_
        clear hS
        have hS : (fun W : World => W.cell? ⟨w6.heap.size + 1, 0, none⟩ = some (.int .i64 (nth l 2)) ∧ W.cell? ⟨w6.heap.size + 1, 1, none⟩ = some (.int .i64 (nth l 1)) ∧ W.cell? ⟨w6.heap.size, 0, none⟩ = some (.int .i64 e1) ∧ W.cell? ⟨w6.heap.size, 1, none⟩ = some (.int .i64 e0) ∧ W.cell? ⟨w3.heap.size, 0, none⟩ = some (.int .i64 dA0) ∧ W.cell? ⟨w3.heap.size, 1, none⟩ = some (.int .i64 dB0) ∧ W.cell? ⟨w3.heap.size + 1, 0, none⟩ = some (.int .i64 K0) ∧ W.cell? ⟨w3.heap.size + 1, 1, none⟩ = some (.int .i64 R0) ∧ W.cell? ⟨gp, op + 1, none⟩ = some (.int .i64 (nth l 1)) ∧ W.cell? ⟨gp, op + 2, none⟩ = some (.int .i64 (nth l 2))) _ := ⟨(Box.new (g := w6.heap.size + 1) _ #[.int .i64 (nth l 2), .int .i64 (nth l 1)] 3 (by simp)).drew.two.1, (Box.new (g := w6.heap.size + 1) _ #[.int .i64 (nth l 2), .int .i64 (nth l 1)] 3 (by simp)).drew.two.2.1, ((Box.new (g := w6.heap.size) _ #[.int .i64 e1, .int .i64 e0] 3 (by simp)).alloc _).drew.two.1, ((Box.new (g := w6.heap.size) _ #[.int .i64 e1, .int .i64 e0] 3 (by simp)).alloc _).drew.two.2.1, ((xs.alloc _).alloc _).drew.two.1, ((xs.alloc _).alloc _).drew.two.2.1, ((xr.alloc _).alloc _).drew.two.1, ((xr.alloc _).alloc _).drew.two.2.1, (ownCell (l := l) (((rq.alloc _).alloc _).drew) (List.mem_cons_self) 1 (by rw [Hl.out]; omega)), (ownCell (l := l) (((rq.alloc _).alloc _).drew) (List.mem_cons_self) 2 (by rw [Hl.out]; omega))⟩
        (try simp only [Act.put, layA, layB, layC])
        (refine tk 14 hS ?_; (try simp only [Act.put, layA, layB, layC]))
        (refine tk 15 hS ?_; (try simp only [Act.put, layA, layB, layC]))
        (refine tk 16 hS ?_; (try simp only [Act.put, layA, layB, layC]))
        (refine tk 17 hS ?_; (try simp only [Act.put, layA, layB, layC]))
        clear hS
        refine wpAnyH_done (by kernel_rfl) ?_ _
        generalize hw7 : World.drew _ = w7
        have z7 : w6.heap.size + 1 + 1 ≤ w7.heap.size := by rw [← hw7]; simp [size_drew]
        have B7 : Below w.heap.size w w7 := by rw [← hw7]; repeat (with_reducible (first | assumption | exact Below.refl _ _ | refine Below.alloc ?_ (by first | omega | (simp; done) | (simp; omega)) _ | refine Below.setCell ?_ (by first | omega | (simp; done) | (simp; omega)) _ | refine Below.drew ?_ | refine below_drewN ?_ _))
        have hK : ∀ k, k < w6.heap.size → w7.heap[k]? = w6.heap[k]? := by
          intro k hk; rw [← hw7]
          repeat (first | rfl | refine (Below.heap_alloc _ _ _ (by first | omega | (simp; omega))).trans ?_)
        have rq_ := rq.keepBlock (w' := w7) (by omega) (fun k h1 h2 => hK k  (by have := rq.2.1; omega))
        clear rq; have rq := rq_; clear rq_
        have xt_ : Box w7 (w1.heap.size) #[.int .i64 (ts : Int), .int .i64 (ta : Int)] 65 := (by rw [← hw7]; exact ((xt.alloc _).alloc _))
        clear xt; have xt := xt_; clear xt_
        have xs_ : Box w7 (w3.heap.size) #[.int .i64 dA0, .int .i64 dB0] 46 := (by rw [← hw7]; exact ((xs.alloc _).alloc _))
        clear xs; have xs := xs_; clear xs_
        have xr_ : Box w7 (w3.heap.size + 1) #[.int .i64 K0, .int .i64 R0] 31 := (by rw [← hw7]; exact ((xr.alloc _).alloc _))
        clear xr; have xr := xr_; clear xr_
        have xn_ : Box w7 (w3.heap.size + 1 + 1) #[.int .i64 (ts : Int), .int .i64 ((ta : Int) + 3)] 65 := (by rw [← hw7]; exact ((xn.alloc _).alloc _))
        clear xn; have xn := xn_; clear xn_
        clear hw7 hK
        (try rw [hot.out])
        have hxx := hx.out
        obtain ⟨cxs_0, cxs_1, fxs_0, fxs_1⟩ := xs.two
        have l_xs_0 : w3.heap.size < w7.heap.size := by omega
        obtain ⟨cxr_0, cxr_1, fxr_0, fxr_1⟩ := xr.two
        have l_xr_0 : w3.heap.size + 1 < w7.heap.size := by omega
        go_wp2_with fail
        clear cxs_0 cxs_1 fxs_0 fxs_1 l_xs_0 cxr_0 cxr_1 fxr_0 fxr_1 l_xr_0
        clear hxx
        generalize hw8 : World.alloc _ _ = w8
        have z8 : w7.heap.size + 1 ≤ w8.heap.size := by rw [← hw8]; simp
        have B8 : Below w.heap.size w w8 := by rw [← hw8]; repeat (with_reducible (first | assumption | exact Below.refl _ _ | refine Below.alloc ?_ (by first | omega | (simp; done) | (simp; omega)) _ | refine Below.setCell ?_ (by first | omega | (simp; done) | (simp; omega)) _ | refine Below.drew ?_ | refine below_drewN ?_ _))
        have hK : ∀ k, k < w7.heap.size → w8.heap[k]? = w7.heap[k]? := by
          intro k hk; rw [← hw8]
          repeat (first | rfl | refine (Below.heap_alloc _ _ _ (by first | omega | (simp; omega))).trans ?_)
        have rq_ := rq.keepBlock (w' := w8) (by omega) (fun k h1 h2 => hK k  (by have := rq.2.1; omega))
        clear rq; have rq := rq_; clear rq_
        have xt_ : Box w8 (w1.heap.size) #[.int .i64 (ts : Int), .int .i64 (ta : Int)] 65 := (by rw [← hw8]; exact (xt.alloc _))
        clear xt; have xt := xt_; clear xt_
        have xs_ : Box w8 (w3.heap.size) #[.int .i64 dA0, .int .i64 dB0] 46 := (by rw [← hw8]; exact (xs.alloc _))
        clear xs; have xs := xs_; clear xs_
        have xr_ : Box w8 (w3.heap.size + 1) #[.int .i64 K0, .int .i64 R0] 31 := (by rw [← hw8]; exact (xr.alloc _))
        clear xr; have xr := xr_; clear xr_
        have xn_ : Box w8 (w3.heap.size + 1 + 1) #[.int .i64 (ts : Int), .int .i64 ((ta : Int) + 3)] 65 := (by rw [← hw8]; exact (xn.alloc _))
        clear xn; have xn := xn_; clear xn_
        clear hw8 hK
        go_loopw [13] (fun i wr => ∃ k : Nat, k ≤ 2 ∧ i = .int .i64 k ∧ Hid (Box wr (w3.heap.size) #[.int .i64 dA0, .int .i64 dB0] 46) ∧ Hid (Box wr (w3.heap.size + 1) #[.int .i64 K0, .int .i64 R0] 31) ∧ Below w.heap.size w wr) (fun i wr => 2 - (intOf i).toNat)
        case atStart => exact ⟨0, by omega, rfl, xs, xr, B8⟩
        case round =>
          obtain ⟨k, hk, rfl, xs, xr, B20⟩ := hrel
          obtain ⟨w20, hw20⟩ : ∃ x, x = wr := ⟨wr, rfl⟩
          subst hw20
          have xs := xs.out
          have zb_xs := xs.lt
          have xr := xr.out
          have zb_xr := xr.lt
          have z20 := B20.size
          by_cases hlt : k < 2
          · have hk1 : (k : Int) = 0 ∨ (k : Int) = 1 := by omega
            have hc0 := Lib.hid (cnt_asks (b := 0) (.inl rfl) hk1)
            have hc1 := Lib.hid (cnt_asks (b := 1) (.inr rfl) hk1)
            clear hk1
            go_wp2_with fail
            refine (iCountAsks_any 0 (k : Int) _).mono ?_
            rintro e w21 ⟨rfl, b21⟩
            have z21 := b21.size
            try simp only [World.size_alloc, World.size_setCell, size_drew] at z21
            have B21 : Below w.heap.size w w21 := Below.t b21
            have xs_ : Box w21 (w3.heap.size) #[.int .i64 dA0, .int .i64 dB0] 46 := xs.below b21 (by first | omega | (simp [size_drew]; done) | (simp [size_drew]; omega))
            clear xs; have xs := xs_; clear xs_
            have xr_ : Box w21 (w3.heap.size + 1) #[.int .i64 K0, .int .i64 R0] 31 := xr.below b21 (by first | omega | (simp [size_drew]; done) | (simp [size_drew]; omega))
            clear xr; have xr := xr_; clear xr_
            rw [hc0.out]
            go_wp2_with fail
            refine (iCountAsks_any 1 (k : Int) _).mono ?_
            rintro e w22 ⟨rfl, b22⟩
            have z22 := b22.size
            try simp only [World.size_alloc, World.size_setCell, size_drew] at z22
            have B22 : Below w.heap.size w w22 := Below.t b22
            have xs_ : Box w22 (w3.heap.size) #[.int .i64 dA0, .int .i64 dB0] 46 := xs.below b22 (by first | omega | (simp [size_drew]; done) | (simp [size_drew]; omega))
            clear xs; have xs := xs_; clear xs_
            have xr_ : Box w22 (w3.heap.size + 1) #[.int .i64 K0, .int .i64 R0] 31 := xr.below b22 (by first | omega | (simp [size_drew]; done) | (simp [size_drew]; omega))
            clear xr; have xr := xr_; clear xr_
            rw [hc1.out]
            go_wp2
            go_roundw
            case rel => exact ⟨k + 1, by omega, by go_num, xs, xr, B22⟩
            case measure => simp [intOf]; omega
          · have hkn : ¬ (k : Int) < 2 := by omega
            have hxx := hx.out
            obtain ⟨cxs_0, cxs_1, fxs_0, fxs_1⟩ := xs.two
            have l_xs_0 : w3.heap.size < w20.heap.size := by omega
            obtain ⟨cxr_0, cxr_1, fxr_0, fxr_1⟩ := xr.two
            have l_xr_0 : w3.heap.size + 1 < w20.heap.size := by omega
            go_wp2_with fail
            clear cxs_0 cxs_1 fxs_0 fxs_1 l_xs_0 cxr_0 cxr_1 fxr_0 fxr_1 l_xr_0
            refine wp_region_held_drew (S := fun W => W.cell? ⟨w3.heap.size, 0, none⟩ = some (.int .i64 dA0) ∧ W.cell? ⟨w3.heap.size, 1, none⟩ = some (.int .i64 dB0) ∧ W.cell? ⟨w3.heap.size + 1, 0, none⟩ = some (.int .i64 K0) ∧ W.cell? ⟨w3.heap.size + 1, 1, none⟩ = some (.int .i64 R0)) (by kernel_rfl) ⟨xs.drew.two.1, xs.drew.two.2.1, xr.drew.two.1, xr.drew.two.2.1⟩ (fun hS => ?_)
            (refine tk 0 hS ?_; (try simp only [Act.put, layA, layB, layC]))
            (refine tk 1 hS ?_; (try simp only [Act.put, layA, layB, layC]))
            (refine tk 2 hS ?_; (try simp only [Act.put, layA, layB, layC]))
            (refine tk 3 hS ?_; (try simp only [Act.put, layA, layB, layC]))
            (refine tk 4 hS ?_; (try simp only [Act.put, layA, layB, layC]))
            (refine tk 5 hS ?_; (try simp only [Act.put, layA, layB, layC]))
            (refine tk 6 hS ?_; (try simp only [Act.put, layA, layB, layC]))
            (refine tk 7 hS ?_; (try simp only [Act.put, layA, layB, layC]))
            (refine tk 8 hS ?_; (try simp only [Act.put, layA, layB, layC]))
            (refine tk 9 hS ?_; (try simp only [Act.put, layA, layB, layC]))
            (refine tk 11 hS ?_; (try simp only [Act.put, layA, layB, layC]))
            (refine tk 12 hS ?_; (try simp only [Act.put, layA, layB, layC]))
            (refine tk 13 hS ?_; (try simp only [Act.put, layA, layB, layC]))
            refine on 10 ?_
            refine valueH (by go_simp; (first | done | with_reducible rfl | exact ⟨rfl, rfl⟩)) ?_ (fun hS_ => ?_)
            · exact ⟨(xs.alloc _).drew.two.1, (xs.alloc _).drew.two.2.1, (xr.alloc _).drew.two.1, (xr.alloc _).drew.two.2.1⟩
            clear hS
            have hS := hS_
            clear hS_
            refine wpAnyH_mono (S2 := fun W => W.cell? ⟨w20.heap.size, 0, none⟩ = some (.int .i64 dA0) ∧ W.cell? ⟨w20.heap.size, 1, none⟩ = some (.int .i64 dB0) ∧ W.cell? ⟨w3.heap.size, 0, none⟩ = some (.int .i64 dA0) ∧ W.cell? ⟨w3.heap.size, 1, none⟩ = some (.int .i64 dB0) ∧ W.cell? ⟨w3.heap.size + 1, 0, none⟩ = some (.int .i64 K0) ∧ W.cell? ⟨w3.heap.size + 1, 1, none⟩ = some (.int .i64 R0)) (fun W h => h.2.2) ?_
            clear hS
            have hS : (fun W : World => W.cell? ⟨w20.heap.size, 0, none⟩ = some (.int .i64 dA0) ∧ W.cell? ⟨w20.heap.size, 1, none⟩ = some (.int .i64 dB0) ∧ W.cell? ⟨w3.heap.size, 0, none⟩ = some (.int .i64 dA0) ∧ W.cell? ⟨w3.heap.size, 1, none⟩ = some (.int .i64 dB0) ∧ W.cell? ⟨w3.heap.size + 1, 0, none⟩ = some (.int .i64 K0) ∧ W.cell? ⟨w3.heap.size + 1, 1, none⟩ = some (.int .i64 R0)) _ := ⟨(Box.new (g := w20.heap.size) _ #[.int .i64 dA0, .int .i64 dB0] 3 (by simp)).drew.two.1, (Box.new (g := w20.heap.size) _ #[.int .i64 dA0, .int .i64 dB0] 3 (by simp)).drew.two.2.1, (xs.alloc _).drew.two.1, (xs.alloc _).drew.two.2.1, (xr.alloc _).drew.two.1, (xr.alloc _).drew.two.2.1⟩
            (try simp only [Act.put, layA, layB, layC])
            (refine tk 14 hS ?_; (try simp only [Act.put, layA, layB, layC]))
            (refine tk 15 hS ?_; (try simp only [Act.put, layA, layB, layC]))
            (refine tk 16 hS ?_; (try simp only [Act.put, layA, layB, layC]))
            (refine tk 17 hS ?_; (try simp only [Act.put, layA, layB, layC]))
            (refine tk 18 hS ?_; (try simp only [Act.put, layA, layB, layC]))
            clear hS
            refine wpAnyH_done (by kernel_rfl) ?_ _
            have hr := hRR.out
            go_wp2
            go_ret
            exact ⟨ret_bool (by simp [hr]), by repeat (with_reducible (first | assumption | exact Below.refl _ _ | refine Below.alloc ?_ (by first | omega | (simp; done) | (simp; omega)) _ | refine Below.setCell ?_ (by first | omega | (simp; done) | (simp; omega)) _ | refine Below.drew ?_ | refine below_drewN ?_ _))⟩
      · refine valueH (by go_simp; (first | done | with_reducible rfl | exact ⟨rfl, rfl⟩)) ?_ (fun hS_ => ?_)
        · exact ⟨(xs.alloc _).drew.two.1, (xs.alloc _).drew.two.2.1, (xr.alloc _).drew.two.1, (xr.alloc _).drew.two.2.1, (ownCell (l := l) ((rq.alloc _).drew) (List.mem_cons_self) 1 (by rw [Hl.out]; omega)), (ownCell (l := l) ((rq.alloc _).drew) (List.mem_cons_self) 2 (by rw [Hl.out]; omega))⟩
        clear hS
        have hS := hS_
        clear hS_
        refine wpAnyH_mono (S2 := fun W => W.cell? ⟨w6.heap.size, 0, none⟩ = some (.int .i64 (nth l 2)) ∧ W.cell? ⟨w6.heap.size, 1, none⟩ = some (.int .i64 (nth l 1)) ∧ W.cell? ⟨w3.heap.size, 0, none⟩ = some (.int .i64 dA0) ∧ W.cell? ⟨w3.heap.size, 1, none⟩ = some (.int .i64 dB0) ∧ W.cell? ⟨w3.heap.size + 1, 0, none⟩ = some (.int .i64 K0) ∧ W.cell? ⟨w3.heap.size + 1, 1, none⟩ = some (.int .i64 R0) ∧ W.cell? ⟨gp, op + 1, none⟩ = some (.int .i64 (nth l 1)) ∧ W.cell? ⟨gp, op + 2, none⟩ = some (.int .i64 (nth l 2))) (fun W h => h.2.2) ?_
        clear hS
        have hS : (fun W : World => W.cell? ⟨w6.heap.size, 0, none⟩ = some (.int .i64 (nth l 2)) ∧ W.cell? ⟨w6.heap.size, 1, none⟩ = some (.int .i64 (nth l 1)) ∧ W.cell? ⟨w3.heap.size, 0, none⟩ = some (.int .i64 dA0) ∧ W.cell? ⟨w3.heap.size, 1, none⟩ = some (.int .i64 dB0) ∧ W.cell? ⟨w3.heap.size + 1, 0, none⟩ = some (.int .i64 K0) ∧ W.cell? ⟨w3.heap.size + 1, 1, none⟩ = some (.int .i64 R0) ∧ W.cell? ⟨gp, op + 1, none⟩ = some (.int .i64 (nth l 1)) ∧ W.cell? ⟨gp, op + 2, none⟩ = some (.int .i64 (nth l 2))) _ := ⟨(Box.new (g := w6.heap.size) _ #[.int .i64 (nth l 2), .int .i64 (nth l 1)] 3 (by simp)).drew.two.1, (Box.new (g := w6.heap.size) _ #[.int .i64 (nth l 2), .int .i64 (nth l 1)] 3 (by simp)).drew.two.2.1, (xs.alloc _).drew.two.1, (xs.alloc _).drew.two.2.1, (xr.alloc _).drew.two.1, (xr.alloc _).drew.two.2.1, (ownCell (l := l) ((rq.alloc _).drew) (List.mem_cons_self) 1 (by rw [Hl.out]; omega)), (ownCell (l := l) ((rq.alloc _).drew) (List.mem_cons_self) 2 (by rw [Hl.out]; omega))⟩
        (try simp only [Act.put, layA, layB, layC])
        (refine tk 14 hS ?_; (try simp only [Act.put, layA, layB, layC]))
        (refine tk 15 hS ?_; (try simp only [Act.put, layA, layB, layC]))
        refine on 2 ?_
        refine valueH (by go_simp; (first | done | with_reducible rfl | exact ⟨rfl, rfl⟩)) ?_ (fun hS_ => ?_)
        · exact ⟨((Box.new (g := w6.heap.size) _ #[.int .i64 (nth l 2), .int .i64 (nth l 1)] 3 (by simp)).alloc _).drew.two.1, ((Box.new (g := w6.heap.size) _ #[.int .i64 (nth l 2), .int .i64 (nth l 1)] 3 (by simp)).alloc _).drew.two.2.1, ((xs.alloc _).alloc _).drew.two.1, ((xs.alloc _).alloc _).drew.two.2.1, ((xr.alloc _).alloc _).drew.two.1, ((xr.alloc _).alloc _).drew.two.2.1, (ownCell (l := l) (((rq.alloc _).alloc _).drew) (List.mem_cons_self) 1 (by rw [Hl.out]; omega)), (ownCell (l := l) (((rq.alloc _).alloc _).drew) (List.mem_cons_self) 2 (by rw [Hl.out]; omega))⟩
        clear hS
        have hS := hS_
        clear hS_
        refine wpAnyH_mono (S2 := fun W => W.cell? ⟨w6.heap.size + 1, 0, none⟩ = some (.int .i64 e1) ∧ W.cell? ⟨w6.heap.size + 1, 1, none⟩ = some (.int .i64 e0) ∧ W.cell? ⟨w6.heap.size, 0, none⟩ = some (.int .i64 (nth l 2)) ∧ W.cell? ⟨w6.heap.size, 1, none⟩ = some (.int .i64 (nth l 1)) ∧ W.cell? ⟨w3.heap.size, 0, none⟩ = some (.int .i64 dA0) ∧ W.cell? ⟨w3.heap.size, 1, none⟩ = some (.int .i64 dB0) ∧ W.cell? ⟨w3.heap.size + 1, 0, none⟩ = some (.int .i64 K0) ∧ W.cell? ⟨w3.heap.size + 1, 1, none⟩ = some (.int .i64 R0) ∧ W.cell? ⟨gp, op + 1, none⟩ = some (.int .i64 (nth l 1)) ∧ W.cell? ⟨gp, op + 2, none⟩ = some (.int .i64 (nth l 2))) (fun W h => h.2.2) ?_
        clear hS
        have hS : (fun W : World => W.cell? ⟨w6.heap.size + 1, 0, none⟩ = some (.int .i64 e1) ∧ W.cell? ⟨w6.heap.size + 1, 1, none⟩ = some (.int .i64 e0) ∧ W.cell? ⟨w6.heap.size, 0, none⟩ = some (.int .i64 (nth l 2)) ∧ W.cell? ⟨w6.heap.size, 1, none⟩ = some (.int .i64 (nth l 1)) ∧ W.cell? ⟨w3.heap.size, 0, none⟩ = some (.int .i64 dA0) ∧ W.cell? ⟨w3.heap.size, 1, none⟩ = some (.int .i64 dB0) ∧ W.cell? ⟨w3.heap.size + 1, 0, none⟩ = some (.int .i64 K0) ∧ W.cell? ⟨w3.heap.size + 1, 1, none⟩ = some (.int .i64 R0) ∧ W.cell? ⟨gp, op + 1, none⟩ = some (.int .i64 (nth l 1)) ∧ W.cell? ⟨gp, op + 2, none⟩ = some (.int .i64 (nth l 2))) _ := ⟨(Box.new (g := w6.heap.size + 1) _ #[.int .i64 e1, .int .i64 e0] 3 (by simp)).drew.two.1, (Box.new (g := w6.heap.size + 1) _ #[.int .i64 e1, .int .i64 e0] 3 (by simp)).drew.two.2.1, ((Box.new (g := w6.heap.size) _ #[.int .i64 (nth l 2), .int .i64 (nth l 1)] 3 (by simp)).alloc _).drew.two.1, ((Box.new (g := w6.heap.size) _ #[.int .i64 (nth l 2), .int .i64 (nth l 1)] 3 (by simp)).alloc _).drew.two.2.1, ((xs.alloc _).alloc _).drew.two.1, ((xs.alloc _).alloc _).drew.two.2.1, ((xr.alloc _).alloc _).drew.two.1, ((xr.alloc _).alloc _).drew.two.2.1, (ownCell (l := l) (((rq.alloc _).alloc _).drew) (List.mem_cons_self) 1 (by rw [Hl.out]; omega)), (ownCell (l := l) (((rq.alloc _).alloc _).drew) (List.mem_cons_self) 2 (by rw [Hl.out]; omega))⟩
        (try simp only [Act.put, layA, layB, layC])
        (refine tk 4 hS ?_; (try simp only [Act.put, layA, layB, layC]))
        (refine tk 5 hS ?_; (try simp only [Act.put, layA, layB, layC]))
        (refine tk 16 hS ?_; (try simp only [Act.put, layA, layB, layC]))
        (refine tk 17 hS ?_; (try simp only [Act.put, layA, layB, layC]))
        clear hS
        refine wpAnyH_done (by kernel_rfl) ?_ _
        generalize hw7 : World.drew _ = w7
        have z7 : w6.heap.size + 1 + 1 ≤ w7.heap.size := by rw [← hw7]; simp [size_drew]
        have B7 : Below w.heap.size w w7 := by rw [← hw7]; repeat (with_reducible (first | assumption | exact Below.refl _ _ | refine Below.alloc ?_ (by first | omega | (simp; done) | (simp; omega)) _ | refine Below.setCell ?_ (by first | omega | (simp; done) | (simp; omega)) _ | refine Below.drew ?_ | refine below_drewN ?_ _))
        have hK : ∀ k, k < w6.heap.size → w7.heap[k]? = w6.heap[k]? := by
          intro k hk; rw [← hw7]
          repeat (first | rfl | refine (Below.heap_alloc _ _ _ (by first | omega | (simp; omega))).trans ?_)
        have rq_ := rq.keepBlock (w' := w7) (by omega) (fun k h1 h2 => hK k  (by have := rq.2.1; omega))
        clear rq; have rq := rq_; clear rq_
        have xt_ : Box w7 (w1.heap.size) #[.int .i64 (ts : Int), .int .i64 (ta : Int)] 65 := (by rw [← hw7]; exact ((xt.alloc _).alloc _))
        clear xt; have xt := xt_; clear xt_
        have xs_ : Box w7 (w3.heap.size) #[.int .i64 dA0, .int .i64 dB0] 46 := (by rw [← hw7]; exact ((xs.alloc _).alloc _))
        clear xs; have xs := xs_; clear xs_
        have xr_ : Box w7 (w3.heap.size + 1) #[.int .i64 K0, .int .i64 R0] 31 := (by rw [← hw7]; exact ((xr.alloc _).alloc _))
        clear xr; have xr := xr_; clear xr_
        have xn_ : Box w7 (w3.heap.size + 1 + 1) #[.int .i64 (ts : Int), .int .i64 ((ta : Int) + 3)] 65 := (by rw [← hw7]; exact ((xn.alloc _).alloc _))
        clear xn; have xn := xn_; clear xn_
        clear hw7 hK
        (try rw [hot.out])
        have hxx := hx.out
        obtain ⟨cxs_0, cxs_1, fxs_0, fxs_1⟩ := xs.two
        have l_xs_0 : w3.heap.size < w7.heap.size := by omega
        obtain ⟨cxr_0, cxr_1, fxr_0, fxr_1⟩ := xr.two
        have l_xr_0 : w3.heap.size + 1 < w7.heap.size := by omega
        go_wp2_with fail
        clear cxs_0 cxs_1 fxs_0 fxs_1 l_xs_0 cxr_0 cxr_1 fxr_0 fxr_1 l_xr_0
        clear hxx
        generalize hw8 : World.alloc _ _ = w8
        have z8 : w7.heap.size + 1 ≤ w8.heap.size := by rw [← hw8]; simp
        have B8 : Below w.heap.size w w8 := by rw [← hw8]; repeat (with_reducible (first | assumption | exact Below.refl _ _ | refine Below.alloc ?_ (by first | omega | (simp; done) | (simp; omega)) _ | refine Below.setCell ?_ (by first | omega | (simp; done) | (simp; omega)) _ | refine Below.drew ?_ | refine below_drewN ?_ _))
        have hK : ∀ k, k < w7.heap.size → w8.heap[k]? = w7.heap[k]? := by
          intro k hk; rw [← hw8]
          repeat (first | rfl | refine (Below.heap_alloc _ _ _ (by first | omega | (simp; omega))).trans ?_)
        have rq_ := rq.keepBlock (w' := w8) (by omega) (fun k h1 h2 => hK k  (by have := rq.2.1; omega))
        clear rq; have rq := rq_; clear rq_
        have xt_ : Box w8 (w1.heap.size) #[.int .i64 (ts : Int), .int .i64 (ta : Int)] 65 := (by rw [← hw8]; exact (xt.alloc _))
        clear xt; have xt := xt_; clear xt_
        have xs_ : Box w8 (w3.heap.size) #[.int .i64 dA0, .int .i64 dB0] 46 := (by rw [← hw8]; exact (xs.alloc _))
        clear xs; have xs := xs_; clear xs_
        have xr_ : Box w8 (w3.heap.size + 1) #[.int .i64 K0, .int .i64 R0] 31 := (by rw [← hw8]; exact (xr.alloc _))
        clear xr; have xr := xr_; clear xr_
        have xn_ : Box w8 (w3.heap.size + 1 + 1) #[.int .i64 (ts : Int), .int .i64 ((ta : Int) + 3)] 65 := (by rw [← hw8]; exact (xn.alloc _))
        clear xn; have xn := xn_; clear xn_
        clear hw8 hK
        go_loopw [13] (fun i wr => ∃ k : Nat, k ≤ 2 ∧ i = .int .i64 k ∧ Hid (Box wr (w3.heap.size) #[.int .i64 dA0, .int .i64 dB0] 46) ∧ Hid (Box wr (w3.heap.size + 1) #[.int .i64 K0, .int .i64 R0] 31) ∧ Below w.heap.size w wr) (fun i wr => 2 - (intOf i).toNat)
        case atStart => exact ⟨0, by omega, rfl, xs, xr, B8⟩
        case round =>
          obtain ⟨k, hk, rfl, xs, xr, B20⟩ := hrel
          obtain ⟨w20, hw20⟩ : ∃ x, x = wr := ⟨wr, rfl⟩
          subst hw20
          have xs := xs.out
          have zb_xs := xs.lt
          have xr := xr.out
          have zb_xr := xr.lt
          have z20 := B20.size
          by_cases hlt : k < 2
          · have hk1 : (k : Int) = 0 ∨ (k : Int) = 1 := by omega
            have hc0 := Lib.hid (cnt_asks (b := 0) (.inl rfl) hk1)
            have hc1 := Lib.hid (cnt_asks (b := 1) (.inr rfl) hk1)
            clear hk1
            go_wp2_with fail
            refine (iCountAsks_any 0 (k : Int) _).mono ?_
            rintro e w21 ⟨rfl, b21⟩
            have z21 := b21.size
            try simp only [World.size_alloc, World.size_setCell, size_drew] at z21
            have B21 : Below w.heap.size w w21 := Below.t b21
            have xs_ : Box w21 (w3.heap.size) #[.int .i64 dA0, .int .i64 dB0] 46 := xs.below b21 (by first | omega | (simp [size_drew]; done) | (simp [size_drew]; omega))
            clear xs; have xs := xs_; clear xs_
            have xr_ : Box w21 (w3.heap.size + 1) #[.int .i64 K0, .int .i64 R0] 31 := xr.below b21 (by first | omega | (simp [size_drew]; done) | (simp [size_drew]; omega))
            clear xr; have xr := xr_; clear xr_
            rw [hc0.out]
            go_wp2_with fail
            refine (iCountAsks_any 1 (k : Int) _).mono ?_
            rintro e w22 ⟨rfl, b22⟩
            have z22 := b22.size
            try simp only [World.size_alloc, World.size_setCell, size_drew] at z22
            have B22 : Below w.heap.size w w22 := Below.t b22
            have xs_ : Box w22 (w3.heap.size) #[.int .i64 dA0, .int .i64 dB0] 46 := xs.below b22 (by first | omega | (simp [size_drew]; done) | (simp [size_drew]; omega))
            clear xs; have xs := xs_; clear xs_
            have xr_ : Box w22 (w3.heap.size + 1) #[.int .i64 K0, .int .i64 R0] 31 := xr.below b22 (by first | omega | (simp [size_drew]; done) | (simp [size_drew]; omega))
            clear xr; have xr := xr_; clear xr_
            rw [hc1.out]
            go_wp2
            go_roundw
            case rel => exact ⟨k + 1, by omega, by go_num, xs, xr, B22⟩
            case measure => simp [intOf]; omega
          · have hkn : ¬ (k : Int) < 2 := by omega
            have hxx := hx.out
            obtain ⟨cxs_0, cxs_1, fxs_0, fxs_1⟩ := xs.two
            have l_xs_0 : w3.heap.size < w20.heap.size := by omega
            obtain ⟨cxr_0, cxr_1, fxr_0, fxr_1⟩ := xr.two
            have l_xr_0 : w3.heap.size + 1 < w20.heap.size := by omega
            go_wp2_with fail
            clear cxs_0 cxs_1 fxs_0 fxs_1 l_xs_0 cxr_0 cxr_1 fxr_0 fxr_1 l_xr_0
            refine wp_region_held_drew (S := fun W => W.cell? ⟨w3.heap.size, 0, none⟩ = some (.int .i64 dA0) ∧ W.cell? ⟨w3.heap.size, 1, none⟩ = some (.int .i64 dB0) ∧ W.cell? ⟨w3.heap.size + 1, 0, none⟩ = some (.int .i64 K0) ∧ W.cell? ⟨w3.heap.size + 1, 1, none⟩ = some (.int .i64 R0)) (by kernel_rfl) ⟨xs.drew.two.1, xs.drew.two.2.1, xr.drew.two.1, xr.drew.two.2.1⟩ (fun hS => ?_)
            (refine tk 0 hS ?_; (try simp only [Act.put, layA, layB, layC]))
            (refine tk 1 hS ?_; (try simp only [Act.put, layA, layB, layC]))
            (refine tk 2 hS ?_; (try simp only [Act.put, layA, layB, layC]))
            (refine tk 3 hS ?_; (try simp only [Act.put, layA, layB, layC]))
            (refine tk 4 hS ?_; (try simp only [Act.put, layA, layB, layC]))
            (refine tk 5 hS ?_; (try simp only [Act.put, layA, layB, layC]))
            (refine tk 6 hS ?_; (try simp only [Act.put, layA, layB, layC]))
            (refine tk 7 hS ?_; (try simp only [Act.put, layA, layB, layC]))
            (refine tk 8 hS ?_; (try simp only [Act.put, layA, layB, layC]))
            (refine tk 9 hS ?_; (try simp only [Act.put, layA, layB, layC]))
            (refine tk 11 hS ?_; (try simp only [Act.put, layA, layB, layC]))
            (refine tk 12 hS ?_; (try simp only [Act.put, layA, layB, layC]))
            (refine tk 13 hS ?_; (try simp only [Act.put, layA, layB, layC]))
            refine on 10 ?_
            refine valueH (by go_simp; (first | done | with_reducible rfl | exact ⟨rfl, rfl⟩)) ?_ (fun hS_ => ?_)
            · exact ⟨(xs.alloc _).drew.two.1, (xs.alloc _).drew.two.2.1, (xr.alloc _).drew.two.1, (xr.alloc _).drew.two.2.1⟩
            clear hS
            have hS := hS_
            clear hS_
            refine wpAnyH_mono (S2 := fun W => W.cell? ⟨w20.heap.size, 0, none⟩ = some (.int .i64 dA0) ∧ W.cell? ⟨w20.heap.size, 1, none⟩ = some (.int .i64 dB0) ∧ W.cell? ⟨w3.heap.size, 0, none⟩ = some (.int .i64 dA0) ∧ W.cell? ⟨w3.heap.size, 1, none⟩ = some (.int .i64 dB0) ∧ W.cell? ⟨w3.heap.size + 1, 0, none⟩ = some (.int .i64 K0) ∧ W.cell? ⟨w3.heap.size + 1, 1, none⟩ = some (.int .i64 R0)) (fun W h => h.2.2) ?_
            clear hS
            have hS : (fun W : World => W.cell? ⟨w20.heap.size, 0, none⟩ = some (.int .i64 dA0) ∧ W.cell? ⟨w20.heap.size, 1, none⟩ = some (.int .i64 dB0) ∧ W.cell? ⟨w3.heap.size, 0, none⟩ = some (.int .i64 dA0) ∧ W.cell? ⟨w3.heap.size, 1, none⟩ = some (.int .i64 dB0) ∧ W.cell? ⟨w3.heap.size + 1, 0, none⟩ = some (.int .i64 K0) ∧ W.cell? ⟨w3.heap.size + 1, 1, none⟩ = some (.int .i64 R0)) _ := ⟨(Box.new (g := w20.heap.size) _ #[.int .i64 dA0, .int .i64 dB0] 3 (by simp)).drew.two.1, (Box.new (g := w20.heap.size) _ #[.int .i64 dA0, .int .i64 dB0] 3 (by simp)).drew.two.2.1, (xs.alloc _).drew.two.1, (xs.alloc _).drew.two.2.1, (xr.alloc _).drew.two.1, (xr.alloc _).drew.two.2.1⟩
            (try simp only [Act.put, layA, layB, layC])
            (refine tk 14 hS ?_; (try simp only [Act.put, layA, layB, layC]))
            (refine tk 15 hS ?_; (try simp only [Act.put, layA, layB, layC]))
            (refine tk 16 hS ?_; (try simp only [Act.put, layA, layB, layC]))
            (refine tk 17 hS ?_; (try simp only [Act.put, layA, layB, layC]))
            (refine tk 18 hS ?_; (try simp only [Act.put, layA, layB, layC]))
            clear hS
            refine wpAnyH_done (by kernel_rfl) ?_ _
            have hr := hRR.out
            go_wp2
            go_ret
            exact ⟨ret_bool (by simp [hr]), by repeat (with_reducible (first | assumption | exact Below.refl _ _ | refine Below.alloc ?_ (by first | omega | (simp; done) | (simp; omega)) _ | refine Below.setCell ?_ (by first | omega | (simp; done) | (simp; omega)) _ | refine Below.drew ?_ | refine below_drewN ?_ _))⟩
end Go.Proofs.Ytakmgghjpompoaa

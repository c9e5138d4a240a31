/- The walk of the law FnTransferred. Printed by laws3.py. -/
import Derived.Test.YtakmgghjpompoaaOtLaw
import Derived.Test.YtakmgghjpompoaaMemC
import Derived.Test.YtakmgghjpompoaaDraw2
import Derived.Test.YtakmgghjpompoaaPlaces
import Derived.Test.YtakmgghjpompoaaOpenS
namespace Go.Proofs.Ytakmgghjpompoaa
set_option linter.unusedSimpArgs false
set_option linter.unusedVariables false
open Go.RowKit
set_option maxRecDepth 100000 in
set_option maxHeartbeats 10000000 in
theorem walk_FnTransferred (A : Option Addr) (n c : Nat) (w : World) (hx : Bts0 w A n) :
    Calls Try.prog 18 #[.slice A n c] w fun e w' => e = .returned (.bool true) ∧ Below w.heap.size w w' := by
  by_cases hn : (1048576 : Int) < n
  · go_enter Try.func18, Try.ntmps18
    go_wp2_with fail
    refine (big_any _ _ _ _).mono ?_
    rintro e w1 ⟨rfl, rfl⟩
    go_wp2
    go_ret
    exact ⟨rfl, Below.refl _ _⟩
  · have hB0 : Bts w A n := ⟨by omega, hx.2⟩
    go_enter Try.func18, Try.ntmps18
    go_wp2_with fail
    refine (big_any _ _ _ _).mono ?_
    rintro e w_ ⟨rfl, rfl⟩
    go_wp2_with fail
    refine (DrawTape_any n c A _ hB0).mono ?_
    rintro e w1 ⟨ts, ta, hts, hta, rfl, b1⟩
    have B1 := b1
    have z1 := b1.size
    clear b1
    go_wp2_with fail
    refine (DrawPlaces_any n c A _ (hB0.keep fun _ a _ ha => (show Below w.heap.size w _ from by repeat (with_reducible (first | assumption | exact Below.refl _ _ | refine Below.alloc ?_ (by first | omega | (simp; done) | (simp; omega)) _ | refine Below.setCell ?_ (by first | omega | (simp; done) | (simp; omega)) _ | refine Below.drew ?_ | refine below_drewN ?_ _))).block _ ha)).mono ?_
    rintro e w2 ⟨v, l, rfl, hl, ha, ho, b2⟩
    have z2 := b2.size
    try simp only [World.size_alloc, World.size_setCell, size_drew] at z2
    have B2 : Below w.heap.size w w2 := Below.t b2
    have xt_ : Box w2 (w1.heap.size) #[.int .i64 (ts : Int), .int .i64 (ta : Int)] 65 := (Box.new (g := w1.heap.size) _ #[.int .i64 (ts : Int), .int .i64 (ta : Int)] 65 (by simp)).below b2 (by first | omega | (simp [size_drew]; done) | (simp [size_drew]; omega))
    have xt := xt_; clear xt_
    obtain ⟨Bp, dp, rfl, hI⟩ := ho.reads
    rw [hl] at hI ho ⊢
    obtain ⟨gp, op, rfl, hgp, _⟩ := hI.block (by omega)
    have rq : OwnL w2 (w1.heap.size + 1) w2.heap.size [(.slice (some ⟨gp, op, none⟩) 12 dp, .ints l)] := OwnL.one (d := .ints l) (show OwnD _ _ _ (.ints l) by unfold OwnD; (first | exact ho | (simp only [World.size_alloc] at ho; exact ho))) (by omega)
    have hgp1 := (ownIn rq)
    clear hI ho hgp
    have HA := Lib.hid ha
    have Hl := Lib.hid hl
    clear ha hl
    obtain ⟨cxt_0, cxt_1, fxt_0, fxt_1⟩ := xt.two
    have l_xt_0 : w1.heap.size < w2.heap.size := by omega
    go_wp2_with fail
    refine (iOtDeal_L (ts : Int) (ta : Int)).mono ?_
    rintro e w3 ⟨rfl, b3⟩
    clear cxt_0 cxt_1 fxt_0 fxt_1 l_xt_0
    have z3 := b3.size
    try simp only [World.size_alloc, World.size_setCell, size_drew] at z3
    have B3 : Below w.heap.size w w3 := Below.t b3
    have rq_ := rq.below b3
    clear rq; have rq := rq_; clear rq_
    have xt_ : Box w3 (w1.heap.size) #[.int .i64 (ts : Int), .int .i64 (ta : Int)] 65 := xt.below b3 (by first | omega | (simp [size_drew]; done) | (simp [size_drew]; omega))
    clear xt; have xt := xt_; clear xt_
    obtain ⟨hA, hB, hK, hR, hT⟩ := deal_new (s := (ts : Int)) (a := (ta : Int)) (by omega) (by omega)
    generalize dA (ts : Int) (ta : Int) = dA0 at *
    generalize dB (ts : Int) (ta : Int) = dB0 at *
    generalize dK (ts : Int) (ta : Int) = K0 at *
    generalize dR (ts : Int) (ta : Int) = R0 at *
    rw [hT]
    clear hT
    have HA1 := Lib.hid hA
    have HB1 := Lib.hid hB
    have HK1 := Lib.hid hK
    have HR1 := Lib.hid hR
    clear hA hB hK hR
    obtain ⟨q0l, q0h⟩ := HA.out (nth l 0) (by rw [nth_lt (by rw [Hl.out]; omega)]; exact List.getElem_mem _)
    obtain ⟨q1l, q1h⟩ := HA.out (nth l 1) (by rw [nth_lt (by rw [Hl.out]; omega)]; exact List.getElem_mem _)
    obtain ⟨q2l, q2h⟩ := HA.out (nth l 2) (by rw [nth_lt (by rw [Hl.out]; omega)]; exact List.getElem_mem _)
    have ht0 : (nth l 0).tmod 2 = nth l 0 % 2 := Int.tmod_eq_emod_of_nonneg q0l
    have cq0 := ownCell (l := l) (g := gp) (o := op) (n := 12) (c := dp) rq (List.mem_cons_self) 0 (by rw [Hl.out]; omega)
    simp only [Nat.add_zero] at cq0
    have cq1 := ownCell (l := l) (g := gp) (o := op) (n := 12) (c := dp) rq (List.mem_cons_self) 1 (by rw [Hl.out]; omega)
    have cq2 := ownCell (l := l) (g := gp) (o := op) (n := 12) (c := dp) rq (List.mem_cons_self) 2 (by rw [Hl.out]; omega)
    have hgq := ownIn rq
    have lq_0 : gp < w3.heap.size := by omega
    have lq_1 : gp < w3.heap.size + 1 := by omega
    have lq_2 : gp < w3.heap.size + 1 + 1 := by omega
    have lq_3 : gp < w3.heap.size + 1 + 1 + 1 := by omega
    obtain ⟨b, hb⟩ : ∃ x, Hid (nth l 0 % 2 = x) := ⟨_, rfl⟩
    rw [hb.out] at ht0
    have hb1 := Lib.hid (show b = 0 ∨ b = 1 by have := hb.out; omega)
    obtain ⟨m0, hm0⟩ : ∃ x, Hid (nth l 1 = x) := ⟨_, rfl⟩
    obtain ⟨m1, hm1⟩ : ∃ x, Hid (nth l 2 = x) := ⟨_, rfl⟩
    rw [hm0.out] at cq1 q1l q1h
    rw [hm1.out] at cq2 q2l q2h
    obtain ⟨cxt_0, cxt_1, fxt_0, fxt_1⟩ := xt.two
    have l_xt_0 : w1.heap.size < w3.heap.size := by omega
    have l_xt_1 : w1.heap.size < w3.heap.size + 1 := by omega
    have l_xt_2 : w1.heap.size < w3.heap.size + 1 + 1 := by omega
    have l_xt_3 : w1.heap.size < w3.heap.size + 1 + 1 + 1 := by omega
    go_wp2_with fail
    refine (iOtAsk_any b K0 R0 _).mono ?_
    rintro e w4 ⟨rfl, b4⟩
    clear cxt_0 cxt_1 fxt_0 fxt_1 l_xt_0 l_xt_1 l_xt_2 l_xt_3
    have z4 := b4.size
    try simp only [World.size_alloc, World.size_setCell, size_drew] at z4
    have B4 : Below w.heap.size w w4 := Below.t b4
    have rq_ := (((rq.alloc _).alloc _).alloc _).below b4
    clear rq; have rq := rq_; clear rq_
    have xt_ : Box w4 (w1.heap.size) #[.int .i64 (ts : Int), .int .i64 (ta : Int)] 65 := (((xt.alloc _).alloc _).alloc _).below b4 (by first | omega | (simp [size_drew]; done) | (simp [size_drew]; omega))
    clear xt; have xt := xt_; clear xt_
    have xs_ : Box w4 (w3.heap.size) #[.int .i64 dA0, .int .i64 dB0] 46 := (((Box.new (g := w3.heap.size) _ #[.int .i64 dA0, .int .i64 dB0] 46 (by simp)).alloc _).alloc _).below b4 (by first | omega | (simp [size_drew]; done) | (simp [size_drew]; omega))
    have xs := xs_; clear xs_
    have xr_ : Box w4 (w3.heap.size + 1) #[.int .i64 K0, .int .i64 R0] 31 := ((Box.new (g := w3.heap.size + 1) _ #[.int .i64 K0, .int .i64 R0] 31 (by simp)).alloc _).below b4 (by first | omega | (simp [size_drew]; done) | (simp [size_drew]; omega))
    have xr := xr_; clear xr_
    have xn_ : Box w4 (w3.heap.size + 1 + 1) #[.int .i64 (ts : Int), .int .i64 ((ta : Int) + 3)] 65 := (Box.new (g := w3.heap.size + 1 + 1) _ #[.int .i64 (ts : Int), .int .i64 ((ta : Int) + 3)] 65 (by simp)).below b4 (by first | omega | (simp [size_drew]; done) | (simp [size_drew]; omega))
    have xn := xn_; clear xn_
    clear cq0 cq1 cq2 hgq lq_0 lq_1 lq_2 lq_3
    have hdd := Lib.hid (show otAsk b K0 = 0 ∨ otAsk b K0 = 1 by rw [ask_bit hb1.out HK1.out]; split <;> simp)
    have htr := Lib.hid (transfer (m0 := m0) (m1 := m1) ⟨by omega, by omega⟩ ⟨by omega, by omega⟩ HA1.out HB1.out HK1.out hb1.out HR1.out)
    generalize otAsk b K0 = d at *
    obtain ⟨cxs_0, cxs_1, fxs_0, fxs_1⟩ := xs.two
    have l_xs_0 : w3.heap.size < w4.heap.size := by omega
    obtain ⟨cxr_0, cxr_1, fxr_0, fxr_1⟩ := xr.two
    have l_xr_0 : w3.heap.size + 1 < w4.heap.size := by omega
    obtain ⟨cxn_0, cxn_1, fxn_0, fxn_1⟩ := xn.two
    have l_xn_0 : w3.heap.size + 1 + 1 < w4.heap.size := by omega
    obtain ⟨cxt_0, cxt_1, fxt_0, fxt_1⟩ := xt.two
    have l_xt_0 : w1.heap.size < w4.heap.size := by omega
    go_wp2_with fail
    refine (iOtReply_any m0 m1 dA0 dB0 d _).mono ?_
    rintro e w5 ⟨rfl, b5⟩
    clear cxs_0 cxs_1 fxs_0 fxs_1 l_xs_0 cxr_0 cxr_1 fxr_0 fxr_1 l_xr_0 cxn_0 cxn_1 fxn_0 fxn_1 l_xn_0 cxt_0 cxt_1 fxt_0 fxt_1 l_xt_0
    have z5 := b5.size
    try simp only [World.size_alloc, World.size_setCell, size_drew] at z5
    have B5 : Below w.heap.size w w5 := Below.t b5
    have rq_ := rq.below b5
    clear rq; have rq := rq_; clear rq_
    have xt_ : Box w5 (w1.heap.size) #[.int .i64 (ts : Int), .int .i64 (ta : Int)] 65 := xt.below b5 (by first | omega | (simp [size_drew]; done) | (simp [size_drew]; omega))
    clear xt; have xt := xt_; clear xt_
    have xs_ : Box w5 (w3.heap.size) #[.int .i64 dA0, .int .i64 dB0] 46 := xs.below b5 (by first | omega | (simp [size_drew]; done) | (simp [size_drew]; omega))
    clear xs; have xs := xs_; clear xs_
    have xr_ : Box w5 (w3.heap.size + 1) #[.int .i64 K0, .int .i64 R0] 31 := xr.below b5 (by first | omega | (simp [size_drew]; done) | (simp [size_drew]; omega))
    clear xr; have xr := xr_; clear xr_
    have xn_ : Box w5 (w3.heap.size + 1 + 1) #[.int .i64 (ts : Int), .int .i64 ((ta : Int) + 3)] 65 := xn.below b5 (by first | omega | (simp [size_drew]; done) | (simp [size_drew]; omega))
    clear xn; have xn := xn_; clear xn_
    change Hid (otRec (oE0 m0 m1 dA0 dB0 d) (oE1 m0 m1 dA0 dB0 d) b R0 = _) at htr
    rw [show otRep m0 m1 dA0 dB0 d (bits .xor .i64 m0 dB0) (bits .xor .i64 m0 dA0) = oE0 m0 m1 dA0 dB0 d from rfl, show otRep m0 m1 dA0 dB0 d (bits .xor .i64 m1 dA0) (bits .xor .i64 m1 dB0) = oE1 m0 m1 dA0 dB0 d from rfl]
    generalize oE0 m0 m1 dA0 dB0 d = e0 at *
    generalize oE1 m0 m1 dA0 dB0 d = e1 at *
    obtain ⟨cxr_0, cxr_1, fxr_0, fxr_1⟩ := xr.two
    have l_xr_0 : w3.heap.size + 1 < w5.heap.size := by omega
    obtain ⟨cxn_0, cxn_1, fxn_0, fxn_1⟩ := xn.two
    have l_xn_0 : w3.heap.size + 1 + 1 < w5.heap.size := by omega
    obtain ⟨cxt_0, cxt_1, fxt_0, fxt_1⟩ := xt.two
    have l_xt_0 : w1.heap.size < w5.heap.size := by omega
    go_wp2_with fail
    refine (iOtReceive_any e0 e1 b K0 R0 _).mono ?_
    rintro e w6 ⟨rfl, b6⟩
    clear cxr_0 cxr_1 fxr_0 fxr_1 l_xr_0 cxn_0 cxn_1 fxn_0 fxn_1 l_xn_0 cxt_0 cxt_1 fxt_0 fxt_1 l_xt_0
    have z6 := b6.size
    try simp only [World.size_alloc, World.size_setCell, size_drew] at z6
    have B6 : Below w.heap.size w w6 := Below.t b6
    have rq_ := rq.below b6
    clear rq; have rq := rq_; clear rq_
    have xt_ : Box w6 (w1.heap.size) #[.int .i64 (ts : Int), .int .i64 (ta : Int)] 65 := xt.below b6 (by first | omega | (simp [size_drew]; done) | (simp [size_drew]; omega))
    clear xt; have xt := xt_; clear xt_
    have xs_ : Box w6 (w3.heap.size) #[.int .i64 dA0, .int .i64 dB0] 46 := xs.below b6 (by first | omega | (simp [size_drew]; done) | (simp [size_drew]; omega))
    clear xs; have xs := xs_; clear xs_
    have xr_ : Box w6 (w3.heap.size + 1) #[.int .i64 K0, .int .i64 R0] 31 := xr.below b6 (by first | omega | (simp [size_drew]; done) | (simp [size_drew]; omega))
    clear xr; have xr := xr_; clear xr_
    have xn_ : Box w6 (w3.heap.size + 1 + 1) #[.int .i64 (ts : Int), .int .i64 ((ta : Int) + 3)] 65 := xn.below b6 (by first | omega | (simp [size_drew]; done) | (simp [size_drew]; omega))
    clear xn; have xn := xn_; clear xn_
    rw [htr.out]
    have hw1 : IntKind.i64.wrap ((ta : Int) + 3) = (ta : Int) + 3 := by (rw [IntKind.wrap_i64]; (first | omega | (unfold wrap64; omega)))
    rcases hb1.out with rfl | rfl <;> rcases hdd.out with rfl | rfl
    all_goals
      obtain ⟨cxn_0, cxn_1, fxn_0, fxn_1⟩ := xn.two
      have l_xn_0 : w3.heap.size + 1 + 1 < w6.heap.size := by omega
      obtain ⟨cxt_0, cxt_1, fxt_0, fxt_1⟩ := xt.two
      have l_xt_0 : w1.heap.size < w6.heap.size := by omega
      go_wp2
      go_ret
      exact ⟨ret_bool (by simp), by repeat (with_reducible (first | assumption | exact Below.refl _ _ | refine Below.alloc ?_ (by first | omega | (simp; done) | (simp; omega)) _ | refine Below.setCell ?_ (by first | omega | (simp; done) | (simp; omega)) _ | refine Below.drew ?_ | refine below_drewN ?_ _))⟩
end Go.Proofs.Ytakmgghjpompoaa

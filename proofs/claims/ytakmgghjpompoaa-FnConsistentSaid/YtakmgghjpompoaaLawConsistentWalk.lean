/- The walk of the law FnConsistent. Printed by laws3.py. -/
import Derived.Test.YtakmgghjpompoaaExtLaw
import Derived.Test.YtakmgghjpompoaaMemC
import Derived.Test.YtakmgghjpompoaaDraw2
import Derived.Test.YtakmgghjpompoaaPlaces
import Derived.Test.YtakmgghjpompoaaOpenS
namespace Go.Proofs.Ytakmgghjpompoaa
set_option linter.unusedSimpArgs false
set_option linter.unusedVariables false
open Go.RowKit
def chF (l : List Int) (k : Nat) : Int := nth l (1 + k) % 2
theorem ch_bits {l : List Int} {n : Nat} : (genL (chF l) n).length = n ∧ allBit (genL (chF l) n) = true := by
  refine ⟨genL_len _ _, List.all_eq_true.2 fun x hx => ?_⟩
  obtain ⟨j, hj, rfl⟩ := List.mem_map.1 hx
  unfold chF
  exact inB_iff.2 (by omega)
theorem pass_bd (ws rs ms : List Int) : 0 ≤ countPass ws rs ms ∧ countPass ws rs ms ≤ 256 := by
  unfold countPass
  have := cnt_le (passB ws rs ms) 256
  split <;> omega
set_option maxRecDepth 100000 in
set_option maxHeartbeats 10000000 in
theorem walk_FnConsistent (A : Option Addr) (n c : Nat) (w : World) (hx : Bts0 w A n) :
    Calls Try.prog 22 #[.slice A n c] w fun e w' => e = .returned (.bool true) ∧ Below w.heap.size w w' := by
  by_cases hn : (1048576 : Int) < n
  · go_enter Try.func22, Try.ntmps22
    go_wp2_with fail
    refine (big_any _ _ _ _).mono ?_
    rintro e w1 ⟨rfl, rfl⟩
    go_wp2
    go_ret
    exact ⟨rfl, Below.refl _ _⟩
  · have hB0 : Bts w A n := ⟨by omega, hx.2⟩
    go_enter Try.func22, Try.ntmps22
    go_wp2_with fail
    refine (big_any _ _ _ _).mono ?_
    rintro e w_ ⟨rfl, rfl⟩
    go_wp2_with fail
    refine (DrawTape_any n c A _ hB0).mono ?_
    rintro e w1 ⟨ts, ta, hts, hta, rfl, b1⟩
    have B1 := b1
    have z1 := b1.size
    clear b1
    go_wp2_with fail
    refine (DrawPlaces_any n c A _ (hB0.keep fun _ a _ ha => (show Below w.heap.size w _ from by repeat (with_reducible (first | assumption | exact Below.refl _ _ | refine Below.alloc ?_ (by first | omega | (simp; done) | (simp; omega)) _ | refine Below.setCell ?_ (by first | omega | (simp; done) | (simp; omega)) _ | refine Below.drew ?_ | refine below_drewN ?_ _))).block _ ha)).mono ?_
    rintro e w2 ⟨v, l, rfl, hl, ha, ho, b2⟩
    have z2 := b2.size
    try simp only [World.size_alloc, World.size_setCell, size_drew] at z2
    have B2 : Below w.heap.size w w2 := Below.t b2
    have xt_ : Box w2 (w1.heap.size) #[.int .i64 (ts : Int), .int .i64 (ta : Int)] 65 := (Box.new (g := w1.heap.size) _ #[.int .i64 (ts : Int), .int .i64 (ta : Int)] 65 (by simp)).below b2 (by first | omega | (simp [size_drew]; done) | (simp [size_drew]; omega))
    have xt := xt_; clear xt_
    obtain ⟨Bp, dp, rfl, hI⟩ := ho.reads
    rw [hl] at hI ho ⊢
    obtain ⟨gp, op, rfl, hgp, _⟩ := hI.block (by omega)
    have rq : OwnL w2 (w1.heap.size + 1) w2.heap.size [(.slice (some ⟨gp, op, none⟩) 12 dp, .ints l)] := OwnL.one (d := .ints l) (show OwnD _ _ _ (.ints l) by unfold OwnD; (first | exact ho | (simp only [World.size_alloc] at ho; exact ho))) (by omega)
    have hgp1 := (ownIn rq)
    clear hI ho hgp
    have HA := Lib.hid ha
    have Hl := Lib.hid hl
    clear ha hl
    obtain ⟨q0l, q0h⟩ := HA.out (nth l 0) (by rw [nth_lt (by rw [Hl.out]; omega)]; exact List.getElem_mem _)
    obtain ⟨N, hN⟩ : ∃ N : Nat, Hid (1 + nth l 0 % 5 = (N : Int)) := ⟨(1 + nth l 0 % 5).toNat, (Int.toNat_of_nonneg (by omega)).symm⟩
    have hN1 : 1 ≤ N ∧ N ≤ 5 := by have := hN.out; omega
    have ht0 : (nth l 0).tmod 5 = nth l 0 % 5 := Int.tmod_eq_emod_of_nonneg q0l
    have hw0 : IntKind.i64.wrap (1 + nth l 0 % 5) = (N : Int) := by rw [← hN.out, IntKind.wrap_i64]; (first | omega | (unfold wrap64; omega))
    have cq0 := ownCell (l := l) (g := gp) (o := op) (n := 12) (c := dp) rq (List.mem_cons_self) 0 (by rw [Hl.out]; omega)
    simp only [Nat.add_zero] at cq0
    have hgq := ownIn rq
    have lq_0 : gp < w2.heap.size := by omega
    obtain ⟨cxt_0, cxt_1, fxt_0, fxt_1⟩ := xt.two
    have l_xt_0 : w1.heap.size < w2.heap.size := by omega
    go_wp2_with fail
    refine (iExtRows_L (ts : Int) (ta : Int) (N : Int)).mono ?_
    rintro e w3 ⟨rA, rn, rc, rfl, rr, b3⟩
    clear cxt_0 cxt_1 fxt_0 fxt_1 l_xt_0
    have z3 := b3.size
    try simp only [World.size_alloc, World.size_setCell, size_drew] at z3
    have B3 : Below w.heap.size w w3 := Below.t b3
    have rq_ := rq.below b3
    clear rq; have rq := rq_; clear rq_
    have xt_ : Box w3 (w1.heap.size) #[.int .i64 (ts : Int), .int .i64 (ta : Int)] 65 := xt.below b3 (by first | omega | (simp [size_drew]; done) | (simp [size_drew]; omega))
    clear xt; have xt := xt_; clear xt_
    try simp only [World.size_alloc, World.size_setCell, size_drew] at rr
    obtain ⟨he1, he2, he3⟩ := rows_new (s := (ts : Int)) (a := (ta : Int)) (n := N) (by omega) (by omega) (by omega)
    rw [he3]
    clear he3
    generalize extRowsL (ts : Int) (ta : Int) (N : Int) = rS at *
    have lr := Lib.hid he1
    have ar := Lib.hid he2
    clear he1 he2
    have nr : rS.length ≤ 1048576 := by rw [lr.out]; omega
    obtain rfl : N = rn := by rw [ownLen (A := rA) (n := rn) (c := rc) (l := rS) rr (by simp), lr.out]
    clear cq0 hgq lq_0
    go_wp2_with fail
    refine (iExtRows_L (ts : Int) ((ta : Int) + (N : Int)) (N : Int)).mono ?_
    rintro e w4 ⟨wA, wn, wc, rfl, rw, b4⟩
    have z4 := b4.size
    try simp only [World.size_alloc, World.size_setCell, size_drew] at z4
    have B4 : Below w.heap.size w w4 := Below.t b4
    have rq_ := (rq.alloc _).below b4
    clear rq; have rq := rq_; clear rq_
    have rr_ := (rr.alloc _).below b4
    clear rr; have rr := rr_; clear rr_
    have xt_ : Box w4 (w1.heap.size) #[.int .i64 (ts : Int), .int .i64 (ta : Int)] 65 := (xt.alloc _).below b4 (by first | omega | (simp [size_drew]; done) | (simp [size_drew]; omega))
    clear xt; have xt := xt_; clear xt_
    have xn_ : Box w4 (w3.heap.size) #[.int .i64 (ts : Int), .int .i64 ((ta : Int) + (N : Int))] 65 := (Box.new (g := w3.heap.size) _ #[.int .i64 (ts : Int), .int .i64 ((ta : Int) + (N : Int))] 65 (by simp)).below b4 (by first | omega | (simp [size_drew]; done) | (simp [size_drew]; omega))
    have xn := xn_; clear xn_
    try simp only [World.size_alloc, World.size_setCell, size_drew] at rw
    obtain ⟨he1, he2, he3⟩ := rows_new (s := (ts : Int)) (a := ((ta : Int) + (N : Int))) (n := N) (by omega) (by omega) (by omega)
    rw [he3]
    clear he3
    generalize extRowsL (ts : Int) ((ta : Int) + (N : Int)) (N : Int) = wS at *
    have lw := Lib.hid he1
    have aw := Lib.hid he2
    clear he1 he2
    have nw : wS.length ≤ 1048576 := by rw [lw.out]; omega
    obtain rfl : N = wn := by rw [ownLen (A := wA) (n := wn) (c := wc) (l := wS) rw (by simp), lw.out]
    go_wp2_with fail
    (try clear ht0 hw0)
    generalize hw5 : World.alloc _ _ = w5
    have z5 : w4.heap.size + 1 + 1 ≤ w5.heap.size := by rw [← hw5]; simp
    have B5 : Below w.heap.size w w5 := by rw [← hw5]; repeat (with_reducible (first | assumption | exact Below.refl _ _ | refine Below.alloc ?_ (by first | omega | (simp; done) | (simp; omega)) _ | refine Below.setCell ?_ (by first | omega | (simp; done) | (simp; omega)) _ | refine Below.drew ?_ | refine below_drewN ?_ _))
    have hK : ∀ k, k < w4.heap.size → w5.heap[k]? = w4.heap[k]? := by
      intro k hk; rw [← hw5]
      repeat (first | rfl | refine (Below.heap_alloc _ _ _ (by first | omega | (simp; omega))).trans ?_)
    have rq_ := rq.keepBlock (w' := w5) (by omega) (fun k h1 h2 => hK k  (by have := rq.2.1; omega))
    clear rq; have rq := rq_; clear rq_
    have rr_ := rr.keepBlock (w' := w5) (by omega) (fun k h1 h2 => hK k  (by have := rr.2.1; omega))
    clear rr; have rr := rr_; clear rr_
    have rw_ := rw.keepBlock (w' := w5) (by omega) (fun k h1 h2 => hK k  (by have := rw.2.1; omega))
    clear rw; have rw := rw_; clear rw_
    have xt_ : Box w5 (w1.heap.size) #[.int .i64 (ts : Int), .int .i64 (ta : Int)] 65 := (by rw [← hw5]; exact ((xt.alloc _).alloc _))
    clear xt; have xt := xt_; clear xt_
    have xn_ : Box w5 (w3.heap.size) #[.int .i64 (ts : Int), .int .i64 ((ta : Int) + (N : Int))] 65 := (by rw [← hw5]; exact ((xn.alloc _).alloc _))
    clear xn; have xn := xn_; clear xn_
    have xn2_ : Box w5 (w4.heap.size) #[.int .i64 (ts : Int), .int .i64 (((ta : Int) + (N : Int)) + (N : Int))] 65 := (by rw [← hw5]; exact ((Box.new (g := w4.heap.size) _ #[.int .i64 (ts : Int), .int .i64 (((ta : Int) + (N : Int)) + (N : Int))] 65 (by simp)).alloc _))
    have xn2 := xn2_; clear xn2_
    have xo_ : Box w5 (w4.heap.size + 1) #[] 3 := (by rw [← hw5]; exact (Box.new (g := w4.heap.size + 1) _ #[] 3 (by simp)))
    have xo := xo_; clear xo_
    clear hw5 hK
    have ro := OwnL.lit0 xo
    clear xo
    have lo1 : w5.heap.size ≤ w5.heap.size := Nat.le_refl _
    go_loopw [10, 11] (fun v i wr => ∃ (k : Nat) (A : Option Addr) (n c l9 : Nat) (l0 h0 l1 h1 l2 h2 : Nat), k ≤ N ∧ i = .int .i64 k ∧ v = .slice A n c ∧ Hid (OwnL wr l0 h0 [(.slice (some ⟨gp, op, none⟩) 12 dp, .ints l)]) ∧ Hid (OwnL wr l1 h1 [(.slice rA N rc, .ints rS)]) ∧ Hid (OwnL wr l2 h2 [(.slice wA N wc, .ints wS)]) ∧ Hid (OwnL wr l9 wr.heap.size [(.slice A n c, .ints (genL (chF l) k))]) ∧ w.heap.size ≤ l9 ∧ (h0 ≤ l9 ∧ h1 ≤ l9 ∧ h2 ≤ l9) ∧ Below w.heap.size w wr) (fun v i wr => N - (intOf i).toNat)
    case atStart => exact ⟨0, _, _, _, _, _, _, _, _, _, _, by omega, rfl, rfl, rq, rr, rw, OwnL.mono ro (Nat.le_refl _) (by first | omega | (simp [size_drew]; done) | (simp [size_drew]; omega)) (Nat.le_refl _), by omega, by (repeat (first | omega | constructor)), B5⟩
    case round =>
      obtain ⟨k, vA, vn, vc, l9, l0, h0, l1, h1, l2, h2, hk, rfl, rfl, rq, rr, rw, ro, hl9, hls, B20⟩ := hrel
      obtain ⟨w20, hw20⟩ : ∃ x, x = wr := ⟨wr, rfl⟩
      subst hw20
      replace rq := rq.out
      replace rr := rr.out
      replace rw := rw.out
      replace ro := ro.out
      have z20 := B20.size
      have hsn := Lib.hid (genL_snoc (chF l) k)
      have hgl := Lib.hid (genL_len (chF l) k)
      by_cases hlt : k < N
      · have hck := ownCell (l := l) (g := gp) (o := op) (n := 12) (c := dp) rq (List.mem_cons_self) (1 + k) (by rw [Hl.out]; omega)
        have hq1 : 0 ≤ nth l (1 + k) := (HA.out (nth l (1 + k)) (by rw [nth_lt (by rw [Hl.out]; omega)]; exact List.getElem_mem _)).1
        have hw1 : IntKind.i64.wrap (1 + (k : Int)) = ((1 + k : Nat) : Int) := by (rw [IntKind.wrap_i64]; (first | omega | (unfold wrap64; omega)))
        have ht1 : (nth l (1 + k)).tmod 2 = nth l (1 + k) % 2 := Int.tmod_eq_emod_of_nonneg hq1
        have hk12 : 1 + k < 12 := by omega
        go_wp2_with (at_builtin; go_must (refine append_N rfl _ _ rfl (chF l k) _ rfl rfl ro (by first | rfl | simp) (by have := hgl.out; omega) ?_); intro qA qn qc w21 ro_ c21)
        have z21 := c21.size
        (try simp only [World.size_alloc, World.size_setCell, size_drew] at z21)
        have B21 : Below w.heap.size w w21 := Below.trans (b := _) (by repeat (with_reducible (first | assumption | exact Below.refl _ _ | refine Below.alloc ?_ (by first | omega | (simp; done) | (simp; omega)) _ | refine Below.setCell ?_ (by first | omega | (simp; done) | (simp; omega)) _ | refine Below.drew ?_ | refine below_drewN ?_ _))) (c21.below (by omega) (by first | omega | (simp [size_drew]; done) | (simp [size_drew]; omega)))
        clear ro; have ro := ro_; clear ro_
        have rq_ := rq.away c21 (by omega)
        clear rq; have rq := rq_; clear rq_
        have rr_ := rr.away c21 (by omega)
        clear rr; have rr := rr_; clear rr_
        have rw_ := rw.away c21 (by omega)
        clear rw; have rw := rw_; clear rw_
        clear hw1 ht1 hk12
        go_wp2
        go_roundw
        case rel => exact ⟨k + 1, _, _, _, l9, _, _, _, _, _, _, by omega, by go_num, rfl, rq, rr, rw, by rw [hsn.out]; exact OwnL.mono ro (by omega) (by first | omega | (simp [size_drew]; done) | (simp [size_drew]; omega)) (Nat.le_refl _), hl9, hls, B21⟩
        case measure => simp [intOf]; omega
      · have hro1 := ro.1
        obtain rfl : N = k := by omega
        obtain ⟨hc1, hc2⟩ := ch_bits (l := l) (n := N)
        generalize genL (chF l) N = CS at *
        have lC := Lib.hid hc1
        have aC := Lib.hid hc2
        clear hc1 hc2 hsn hgl hk hlt
        have nC : CS.length ≤ 1048576 := by rw [lC.out]; omega
        obtain rfl : N = vn := by rw [ownLen (A := vA) (n := vn) (c := vc) (l := CS) ro (by simp), lC.out]
        go_wp2_with fail
        refine (iExtMask_L (ro).rd nC).mono ?_
        rintro e w21 ⟨mA, mn, mc, rfl, rm, b21⟩
        have z21 := b21.size
        try simp only [World.size_alloc, World.size_setCell, size_drew] at z21
        have B21 : Below w.heap.size w w21 := Below.t b21
        have rq_ := rq.below b21
        clear rq; have rq := rq_; clear rq_
        have rr_ := rr.below b21
        clear rr; have rr := rr_; clear rr_
        have rw_ := rw.below b21
        clear rw; have rw := rw_; clear rw_
        have ro_ := ro.below b21
        clear ro; have ro := ro_; clear ro_
        try simp only [World.size_alloc, World.size_setCell, size_drew] at rm
        obtain ⟨em, lm, am, at1, at2⟩ := mask_yes lC.out (by omega) aC.out
        rw [em] at rm
        generalize times255 CS = mS at *
        have lM := Lib.hid lm
        have aM := Lib.hid am
        have tM := Lib.hid at2
        clear em lm am at1 at2
        have nM : mS.length ≤ 1048576 := by rw [lM.out]; omega
        obtain rfl : N = mn := by rw [ownLen (A := mA) (n := mn) (c := mc) (l := mS) rm (by simp), lM.out]
        have hp1 := Lib.hid (pass_honest lw.out lr.out lM.out (by omega) aw.out ar.out aM.out tM.out)
        go_wp2_with fail
        refine (iCountPassing_L (rw).rd nw (rr).rd nr (rm).rd nM).mono ?_
        rintro e w22 ⟨rfl, b22⟩
        have z22 := b22.size
        try simp only [World.size_alloc, World.size_setCell, size_drew] at z22
        have B22 : Below w.heap.size w w22 := Below.t b22
        have rq_ := rq.below b22
        clear rq; have rq := rq_; clear rq_
        have rr_ := rr.below b22
        clear rr; have rr := rr_; clear rr_
        have rw_ := rw.below b22
        clear rw; have rw := rw_; clear rw_
        have ro_ := ro.below b22
        clear ro; have ro := ro_; clear ro_
        have rm_ := rm.below b22
        clear rm; have rm := rm_; clear rm_
        rw [hp1.out]
        obtain ⟨q7l, q7h⟩ := HA.out (nth l 7) (by rw [nth_lt (by rw [Hl.out]; omega)]; exact List.getElem_mem _)
        obtain ⟨q8l, q8h⟩ := HA.out (nth l 8) (by rw [nth_lt (by rw [Hl.out]; omega)]; exact List.getElem_mem _)
        obtain ⟨K, hK⟩ : ∃ K : Nat, Hid (nth l 7 % (N : Int) = (K : Int)) := ⟨(nth l 7 % (N : Int)).toNat, (Int.toNat_of_nonneg (Int.emod_nonneg _ (by omega))).symm⟩
        have hKN : K < N := by have h1 := hK.out; have h2 := Int.emod_lt_of_pos (nth l 7) (show 0 < (N : Int) by omega); omega
        have ht7 : (nth l 7).tmod (N : Int) = (K : Int) := by rw [← hK.out]; exact Int.tmod_eq_emod_of_nonneg q7l
        have ht8 : (nth l 8).tmod 254 = nth l 8 % 254 := Int.tmod_eq_emod_of_nonneg q8l
        have hw8 : IntKind.i64.wrap (1 + nth l 8 % 254) = 1 + nth l 8 % 254 := by (rw [IntKind.wrap_i64]; (first | omega | (unfold wrap64; omega)))
        have hN0 : ¬ N = 0 := by omega
        obtain ⟨gm, rfl⟩ := olAt0 rm (by rw [lM.out]; omega)
        have cq7 := ownCell (l := l) (g := gp) (o := op) (n := 12) (c := dp) rq (List.mem_cons_self) 7 (by rw [Hl.out]; omega)
        have cq8 := ownCell (l := l) (g := gp) (o := op) (n := 12) (c := dp) rq (List.mem_cons_self) 8 (by rw [Hl.out]; omega)
        have hgq := ownIn rq
        have lq_0 : gp < w22.heap.size := by omega
        have hcm := olCell0 rm K (by rw [lM.out]; exact hKN)
        have hfm := olFrozen0 rm K
        go_wp2_with fail
        obtain ⟨hst1, hst2⟩ := olStored rm K (1 + nth l 8 % 254)
        generalize World.setCell _ _ _ = w23 at hst1 hst2 ⊢
        clear hcm hfm ht7 ht8 hw8 hN0 cq7 cq8 hgq lq_0
        have z23 := hst2.size
        have rm1 := rm.2.1
        have B23 : Below w.heap.size w w23 := Below.trans (b := _) (by repeat (with_reducible (first | assumption | exact Below.refl _ _ | refine Below.alloc ?_ (by first | omega | (simp; done) | (simp; omega)) _ | refine Below.setCell ?_ (by first | omega | (simp; done) | (simp; omega)) _ | refine Below.drew ?_ | refine below_drewN ?_ _))) (hst2.below (by have := rm.1; omega) (by first | omega | (simp [size_drew]; done) | (simp [size_drew]; omega)))
        clear rm; have rm := hst1; clear hst1
        clear ro
        have rq_ := rq.away hst2 (by omega)
        clear rq; have rq := rq_; clear rq_
        have rr_ := rr.away hst2 (by omega)
        clear rr; have rr := rr_; clear rr_
        have rw_ := rw.away hst2 (by omega)
        clear rw; have rw := rw_; clear rw_
        clear hst2
        have hV : 1 ≤ 1 + nth l 8 % 254 ∧ 1 + nth l 8 % 254 ≤ 254 := by omega
        obtain ⟨hz0, hz1⟩ := pass_mixed lw.out lr.out lM.out (by omega) aw.out ar.out aM.out tM.out hKN hV.1 hV.2
        obtain ⟨hb0, hb1⟩ := pass_bd wS rS (mS.set K (1 + nth l 8 % 254))
        have nM2 : (mS.set K (1 + nth l 8 % 254)).length ≤ 1048576 := by rw [List.length_set]; exact nM
        generalize mS.set K (1 + nth l 8 % 254) = m2 at *
        go_wp2_with fail
        refine (iCountPassing_L (rw).rd nw (rr).rd nr (rm).rd nM2).mono ?_
        rintro e w24 ⟨rfl, b24⟩
        have z24 := b24.size
        try simp only [World.size_alloc, World.size_setCell, size_drew] at z24
        have B24 : Below w.heap.size w w24 := Below.t b24
        have rq_ := rq.below b24
        clear rq; have rq := rq_; clear rq_
        have rr_ := rr.below b24
        clear rr; have rr := rr_; clear rr_
        have rw_ := rw.below b24
        clear rw; have rw := rw_; clear rw_
        have rm_ := rm.below b24
        clear rm; have rm := rm_; clear rm_
        generalize countPass wS rS m2 = C at *
        obtain ⟨gw, gwo, rfl⟩ := rw.some (by rw [lw.out]; omega)
        have hcw := ownCell (l := wS) rw (List.mem_cons_self) K (by rw [lw.out]; exact hKN)
        have hw2 : IntKind.i64.wrap (2 * C) = 2 * C := by (rw [IntKind.wrap_i64]; (first | omega | (unfold wrap64; omega)))
        by_cases hz : nth wS K = 0
        · have e1 : (nth wS K == 0) = true := by simp [hz]
          have hC := hz0 hz
          subst hC
          replace hz := Lib.hid hz
          clear hz0 hz1
          go_wp2
          go_ret
          exact ⟨ret_bool (by simp), by repeat (with_reducible (first | assumption | exact Below.refl _ _ | refine Below.alloc ?_ (by first | omega | (simp; done) | (simp; omega)) _ | refine Below.setCell ?_ (by first | omega | (simp; done) | (simp; omega)) _ | refine Below.drew ?_ | refine below_drewN ?_ _))⟩
        · have e1 : (nth wS K == 0) = false := by simp [hz]
          have e2 : (nth wS K != 0) = true := by simp [hz]
          have hC := hz1 hz
          have hC1 : C < 256 := by omega
          replace hz := Lib.hid hz
          clear hz0 hz1
          go_wp2
          go_ret
          exact ⟨ret_bool (by first | (simp; done) | (simp; omega)), by repeat (with_reducible (first | assumption | exact Below.refl _ _ | refine Below.alloc ?_ (by first | omega | (simp; done) | (simp; omega)) _ | refine Below.setCell ?_ (by first | omega | (simp; done) | (simp; omega)) _ | refine Below.drew ?_ | refine below_drewN ?_ _))⟩
end Go.Proofs.Ytakmgghjpompoaa

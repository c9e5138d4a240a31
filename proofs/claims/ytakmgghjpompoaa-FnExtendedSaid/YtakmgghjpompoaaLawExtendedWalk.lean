/- The walk of the law FnExtended. Printed by laws3.py. -/
import Derived.Test.YtakmgghjpompoaaExtLaw
import Derived.Test.YtakmgghjpompoaaMemC
import Derived.Test.YtakmgghjpompoaaDraw2
import Derived.Test.YtakmgghjpompoaaPlaces
import Derived.Test.YtakmgghjpompoaaOpenS
namespace Go.Proofs.Ytakmgghjpompoaa
set_option linter.unusedSimpArgs false
set_option linter.unusedVariables false
open Go.RowKit
def chF (l : List Int) (k : Nat) : Int := nth l (1 + k) % 2
theorem ch_bits {l : List Int} {n : Nat} : (genL (chF l) n).length = n ∧ allBit (genL (chF l) n) = true := by
  refine ⟨genL_len _ _, List.all_eq_true.2 fun x hx => ?_⟩
  obtain ⟨j, hj, rfl⟩ := List.mem_map.1 hx
  unfold chF
  exact inB_iff.2 (by omega)
theorem cell_as {w : World} {p : Addr} {x y : Int} (h : w.cell? p = some (.int .i64 x)) (e : x = y) : w.cell? p = some (.int .i64 y) := e ▸ h
theorem pass_bd (ws rs ms : List Int) : 0 ≤ countPass ws rs ms ∧ countPass ws rs ms ≤ 256 := by
  unfold countPass
  have := cnt_le (passB ws rs ms) 256
  split <;> omega
set_option maxRecDepth 100000 in
set_option maxHeartbeats 10000000 in
theorem walk_FnExtended (A : Option Addr) (n c : Nat) (w : World) (hx : Bts0 w A n) :
    Calls Try.prog 21 #[.slice A n c] w fun e w' => e = .returned (.bool true) ∧ Below w.heap.size w w' := by
  by_cases hn : (1048576 : Int) < n
  · go_enter Try.func21, Try.ntmps21
    go_wp2_with fail
    refine (big_any _ _ _ _).mono ?_
    rintro e w1 ⟨rfl, rfl⟩
    go_wp2
    go_ret
    exact ⟨rfl, Below.refl _ _⟩
  · have hB0 : Bts w A n := ⟨by omega, hx.2⟩
    go_enter Try.func21, Try.ntmps21
    go_wp2_with fail
    refine (big_any _ _ _ _).mono ?_
    rintro e w_ ⟨rfl, rfl⟩
    go_wp2_with fail
    refine (DrawTape_any n c A _ hB0).mono ?_
    rintro e w1 ⟨ts, ta, hts, hta, rfl, b1⟩
    have B1 := b1
    have z1 := b1.size
    clear b1
    go_wp2_with fail
    refine (DrawPlaces_any n c A _ (hB0.keep fun _ a _ ha => (show Below w.heap.size w _ from by repeat (with_reducible (first | assumption | exact Below.refl _ _ | refine Below.alloc ?_ (by first | omega | (simp; done) | (simp; omega)) _ | refine Below.setCell ?_ (by first | omega | (simp; done) | (simp; omega)) _ | refine Below.drew ?_ | refine below_drewN ?_ _))).block _ ha)).mono ?_
    rintro e w2 ⟨v, l, rfl, hl, ha, ho, b2⟩
    have z2 := b2.size
    try simp only [World.size_alloc, World.size_setCell, size_drew] at z2
    have B2 : Below w.heap.size w w2 := Below.t b2
    have xt_ : Box w2 (w1.heap.size) #[.int .i64 (ts : Int), .int .i64 (ta : Int)] 65 := (Box.new (g := w1.heap.size) _ #[.int .i64 (ts : Int), .int .i64 (ta : Int)] 65 (by simp)).below b2 (by first | omega | (simp [size_drew]; done) | (simp [size_drew]; omega))
    have xt := xt_; clear xt_
    obtain ⟨Bp, dp, rfl, hI⟩ := ho.reads
    rw [hl] at hI ho ⊢
    obtain ⟨gp, op, rfl, hgp, _⟩ := hI.block (by omega)
    have rq : OwnL w2 (w1.heap.size + 1) w2.heap.size [(.slice (some ⟨gp, op, none⟩) 12 dp, .ints l)] := OwnL.one (d := .ints l) (show OwnD _ _ _ (.ints l) by unfold OwnD; (first | exact ho | (simp only [World.size_alloc] at ho; exact ho))) (by omega)
    have hgp1 := (ownIn rq)
    clear hI ho hgp
    have HA := Lib.hid ha
    have Hl := Lib.hid hl
    clear ha hl
    obtain ⟨q0l, q0h⟩ := HA.out (nth l 0) (by rw [nth_lt (by rw [Hl.out]; omega)]; exact List.getElem_mem _)
    obtain ⟨N, hN⟩ : ∃ N : Nat, Hid (1 + nth l 0 % 8 = (N : Int)) := ⟨(1 + nth l 0 % 8).toNat, (Int.toNat_of_nonneg (by omega)).symm⟩
    have hN1 : 1 ≤ N ∧ N ≤ 8 := by have := hN.out; omega
    have ht0 : (nth l 0).tmod 8 = nth l 0 % 8 := Int.tmod_eq_emod_of_nonneg q0l
    have hw0 : IntKind.i64.wrap (1 + nth l 0 % 8) = (N : Int) := by rw [← hN.out, IntKind.wrap_i64]; (first | omega | (unfold wrap64; omega))
    have cq0 := ownCell (l := l) (g := gp) (o := op) (n := 12) (c := dp) rq (List.mem_cons_self) 0 (by rw [Hl.out]; omega)
    simp only [Nat.add_zero] at cq0
    have hgq := ownIn rq
    have lq_0 : gp < w2.heap.size := by omega
    obtain ⟨cxt_0, cxt_1, fxt_0, fxt_1⟩ := xt.two
    have l_xt_0 : w1.heap.size < w2.heap.size := by omega
    go_wp2_with fail
    refine (iExtRows_L (ts : Int) (ta : Int) (N : Int)).mono ?_
    rintro e w3 ⟨rA, rn, rc, rfl, rr, b3⟩
    clear cxt_0 cxt_1 fxt_0 fxt_1 l_xt_0
    have z3 := b3.size
    try simp only [World.size_alloc, World.size_setCell, size_drew] at z3
    have B3 : Below w.heap.size w w3 := Below.t b3
    have rq_ := rq.below b3
    clear rq; have rq := rq_; clear rq_
    have xt_ : Box w3 (w1.heap.size) #[.int .i64 (ts : Int), .int .i64 (ta : Int)] 65 := xt.below b3 (by first | omega | (simp [size_drew]; done) | (simp [size_drew]; omega))
    clear xt; have xt := xt_; clear xt_
    try simp only [World.size_alloc, World.size_setCell, size_drew] at rr
    obtain ⟨he1, he2, he3⟩ := rows_new (s := (ts : Int)) (a := (ta : Int)) (n := N) (by omega) (by omega) (by omega)
    rw [he3]
    clear he3
    generalize extRowsL (ts : Int) (ta : Int) (N : Int) = rS at *
    have lr := Lib.hid he1
    have ar := Lib.hid he2
    clear he1 he2
    have nr : rS.length ≤ 1048576 := by rw [lr.out]; omega
    obtain rfl : N = rn := by rw [ownLen (A := rA) (n := rn) (c := rc) (l := rS) rr (by simp), lr.out]
    clear cq0 hgq lq_0
    go_wp2_with fail
    (try clear ht0 hw0)
    generalize hw4 : World.alloc _ _ = w4
    have z4 : w3.heap.size + 1 + 1 ≤ w4.heap.size := by rw [← hw4]; simp
    have B4 : Below w.heap.size w w4 := by rw [← hw4]; repeat (with_reducible (first | assumption | exact Below.refl _ _ | refine Below.alloc ?_ (by first | omega | (simp; done) | (simp; omega)) _ | refine Below.setCell ?_ (by first | omega | (simp; done) | (simp; omega)) _ | refine Below.drew ?_ | refine below_drewN ?_ _))
    have hK : ∀ k, k < w3.heap.size → w4.heap[k]? = w3.heap[k]? := by
      intro k hk; rw [← hw4]
      repeat (first | rfl | refine (Below.heap_alloc _ _ _ (by first | omega | (simp; omega))).trans ?_)
    have rq_ := rq.keepBlock (w' := w4) (by omega) (fun k h1 h2 => hK k  (by have := rq.2.1; omega))
    clear rq; have rq := rq_; clear rq_
    have rr_ := rr.keepBlock (w' := w4) (by omega) (fun k h1 h2 => hK k  (by have := rr.2.1; omega))
    clear rr; have rr := rr_; clear rr_
    have xt_ : Box w4 (w1.heap.size) #[.int .i64 (ts : Int), .int .i64 (ta : Int)] 65 := (by rw [← hw4]; exact ((xt.alloc _).alloc _))
    clear xt; have xt := xt_; clear xt_
    have xn_ : Box w4 (w3.heap.size) #[.int .i64 (ts : Int), .int .i64 ((ta : Int) + (N : Int))] 65 := (by rw [← hw4]; exact ((Box.new (g := w3.heap.size) _ #[.int .i64 (ts : Int), .int .i64 ((ta : Int) + (N : Int))] 65 (by simp)).alloc _))
    have xn := xn_; clear xn_
    have xo_ : Box w4 (w3.heap.size + 1) #[] 3 := (by rw [← hw4]; exact (Box.new (g := w3.heap.size + 1) _ #[] 3 (by simp)))
    have xo := xo_; clear xo_
    clear hw4 hK
    have ro := OwnL.lit0 xo
    clear xo
    have lo1 : w4.heap.size ≤ w4.heap.size := Nat.le_refl _
    go_loopw [8, 9] (fun v i wr => ∃ (k : Nat) (A : Option Addr) (n c l9 : Nat) (l0 h0 l1 h1 : Nat), k ≤ N ∧ i = .int .i64 k ∧ v = .slice A n c ∧ Hid (OwnL wr l0 h0 [(.slice (some ⟨gp, op, none⟩) 12 dp, .ints l)]) ∧ Hid (OwnL wr l1 h1 [(.slice rA N rc, .ints rS)]) ∧ Hid (OwnL wr l9 wr.heap.size [(.slice A n c, .ints (genL (chF l) k))]) ∧ w.heap.size ≤ l9 ∧ (h0 ≤ l9 ∧ h1 ≤ l9) ∧ Below w.heap.size w wr) (fun v i wr => N - (intOf i).toNat)
    case atStart => exact ⟨0, _, _, _, _, _, _, _, _, by omega, rfl, rfl, rq, rr, OwnL.mono ro (Nat.le_refl _) (by first | omega | (simp [size_drew]; done) | (simp [size_drew]; omega)) (Nat.le_refl _), by omega, by (repeat (first | omega | constructor)), B4⟩
    case round =>
      obtain ⟨k, vA, vn, vc, l9, l0, h0, l1, h1, hk, rfl, rfl, rq, rr, ro, hl9, hls, B20⟩ := hrel
      obtain ⟨w20, hw20⟩ : ∃ x, x = wr := ⟨wr, rfl⟩
      subst hw20
      replace rq := rq.out
      replace rr := rr.out
      replace ro := ro.out
      have z20 := B20.size
      have hsn := Lib.hid (genL_snoc (chF l) k)
      have hgl := Lib.hid (genL_len (chF l) k)
      by_cases hlt : k < N
      · have hck := ownCell (l := l) (g := gp) (o := op) (n := 12) (c := dp) rq (List.mem_cons_self) (1 + k) (by rw [Hl.out]; omega)
        have hq1 : 0 ≤ nth l (1 + k) := (HA.out (nth l (1 + k)) (by rw [nth_lt (by rw [Hl.out]; omega)]; exact List.getElem_mem _)).1
        have hw1 : IntKind.i64.wrap (1 + (k : Int)) = ((1 + k : Nat) : Int) := by (rw [IntKind.wrap_i64]; (first | omega | (unfold wrap64; omega)))
        have ht1 : (nth l (1 + k)).tmod 2 = nth l (1 + k) % 2 := Int.tmod_eq_emod_of_nonneg hq1
        have hk12 : 1 + k < 12 := by omega
        go_wp2_with (at_builtin; go_must (refine append_N rfl _ _ rfl (chF l k) _ rfl rfl ro (by first | rfl | simp) (by have := hgl.out; omega) ?_); intro qA qn qc w21 ro_ c21)
        have z21 := c21.size
        (try simp only [World.size_alloc, World.size_setCell, size_drew] at z21)
        have B21 : Below w.heap.size w w21 := Below.trans (b := _) (by repeat (with_reducible (first | assumption | exact Below.refl _ _ | refine Below.alloc ?_ (by first | omega | (simp; done) | (simp; omega)) _ | refine Below.setCell ?_ (by first | omega | (simp; done) | (simp; omega)) _ | refine Below.drew ?_ | refine below_drewN ?_ _))) (c21.below (by omega) (by first | omega | (simp [size_drew]; done) | (simp [size_drew]; omega)))
        clear ro; have ro := ro_; clear ro_
        have rq_ := rq.away c21 (by omega)
        clear rq; have rq := rq_; clear rq_
        have rr_ := rr.away c21 (by omega)
        clear rr; have rr := rr_; clear rr_
        clear hw1 ht1 hk12
        go_wp2
        go_roundw
        case rel => exact ⟨k + 1, _, _, _, l9, _, _, _, _, by omega, by go_num, rfl, rq, rr, by rw [hsn.out]; exact OwnL.mono ro (by omega) (by first | omega | (simp [size_drew]; done) | (simp [size_drew]; omega)) (Nat.le_refl _), hl9, hls, B21⟩
        case measure => simp [intOf]; omega
      · have hro1 := ro.1
        obtain rfl : N = k := by omega
        obtain ⟨hc1, hc2⟩ := ch_bits (l := l) (n := N)
        generalize genL (chF l) N = CS at *
        have lC := Lib.hid hc1
        have aC := Lib.hid hc2
        clear hc1 hc2 hsn hgl hk hlt
        have nC : CS.length ≤ 1048576 := by rw [lC.out]; omega
        obtain rfl : N = vn := by rw [ownLen (A := vA) (n := vn) (c := vc) (l := CS) ro (by simp), lC.out]
        obtain ⟨q10l, q10h⟩ := HA.out (nth l 10) (by rw [nth_lt (by rw [Hl.out]; omega)]; exact List.getElem_mem _)
        obtain ⟨S, hS0⟩ : ∃ S : Nat, Hid (nth l 10 % 256 = (S : Int)) := ⟨(nth l 10 % 256).toNat, (Int.toNat_of_nonneg (by omega)).symm⟩
        have hS1 : S < 256 := by have := hS0.out; omega
        have ht10 : (nth l 10).tmod 256 = (S : Int) := by rw [← hS0.out]; exact Int.tmod_eq_emod_of_nonneg q10l
        have cq10 := ownCell (l := l) (g := gp) (o := op) (n := 12) (c := dp) rq (List.mem_cons_self) 10 (by rw [Hl.out]; omega)
        have hgq := ownIn rq
        have lq_0 : gp < w20.heap.size := by omega
        go_wp2_with fail
        refine (iExtMask_L (ro).rd nC).mono ?_
        rintro e w21 ⟨mA, mn, mc, rfl, rm, b21⟩
        have z21 := b21.size
        try simp only [World.size_alloc, World.size_setCell, size_drew] at z21
        have B21 : Below w.heap.size w w21 := Below.t b21
        have rq_ := rq.below b21
        clear rq; have rq := rq_; clear rq_
        have rr_ := rr.below b21
        clear rr; have rr := rr_; clear rr_
        have ro_ := ro.below b21
        clear ro; have ro := ro_; clear ro_
        try simp only [World.size_alloc, World.size_setCell, size_drew] at rm
        clear ht10 cq10 hgq lq_0
        have nM : (extMaskL CS).length ≤ 1048576 := by rw [(mask_yes lC.out (by omega) aC.out).1, (mask_yes lC.out (by omega) aC.out).2.1]; omega
        go_wp2_with fail
        refine (iExtSend_L (S : Int) (rr).rd nr (rm).rd nM).mono ?_
        rintro e w22 ⟨qA, qn, qc, rfl, rqq, b22⟩
        have z22 := b22.size
        try simp only [World.size_alloc, World.size_setCell, size_drew] at z22
        have B22 : Below w.heap.size w w22 := Below.t b22
        have rq_ := rq.below b22
        clear rq; have rq := rq_; clear rq_
        have rr_ := rr.below b22
        clear rr; have rr := rr_; clear rr_
        have ro_ := ro.below b22
        clear ro; have ro := ro_; clear ro_
        have rm_ := rm.below b22
        clear rm; have rm := rm_; clear rm_
        try simp only [World.size_alloc, World.size_setCell, size_drew] at rqq
        have hpad := Lib.hid (fun (j : Nat) (hj : j < N) => pad_at lr.out lC.out (by omega) ar.out aC.out hS1 hj)
        have lQ := Lib.hid (hpad.out 0 (by omega)).1
        generalize extSendL rS (extMaskL CS) (S : Int) = QS at *
        obtain rfl : N = qn := by rw [ownLen (A := qA) (n := qn) (c := qc) (l := QS) rqq (by simp), lQ.out]
        obtain ⟨gQ, oQ, rfl⟩ := rqq.some (by rw [lQ.out]; omega)
        obtain ⟨gR, oR, rfl⟩ := rr.some (by rw [lr.out]; omega)
        obtain ⟨gC, oC, rfl⟩ := ro.some (by rw [lC.out]; omega)
        clear rm
        clear rq
        go_wp2_with fail
        go_loopw [12] (fun i wr => ∃ (k : Nat) (l0 h0 l1 h1 l2 h2 : Nat), k ≤ N ∧ i = .int .i64 k ∧ Hid (OwnL wr l0 h0 [(.slice (some ⟨gR, oR, none⟩) N rc, .ints rS)]) ∧ Hid (OwnL wr l1 h1 [(.slice (some ⟨gC, oC, none⟩) N vc, .ints CS)]) ∧ Hid (OwnL wr l2 h2 [(.slice (some ⟨gQ, oQ, none⟩) N qc, .ints QS)]) ∧ Below w.heap.size w wr) (fun i wr => N - (intOf i).toNat)
        case atStart => exact ⟨0, _, _, _, _, _, _, by omega, rfl, rr, ro, rqq, B22⟩
        case round =>
          obtain ⟨k, l0, h0, l1, h1, l2, h2, hk, rfl, rr, ro, rqq, B30⟩ := hrel
          obtain ⟨w30, hw30⟩ : ∃ x, x = wr := ⟨wr, rfl⟩
          subst hw30
          replace rr := rr.out
          replace ro := ro.out
          replace rqq := rqq.out
          have z30 := B30.size
          by_cases hlt : k < N
          · have hck := ownCell (l := QS) rqq (List.mem_cons_self) k (by rw [lQ.out]; exact hlt)
            obtain ⟨_, _, hpd⟩ := hpad.out k hlt
            go_wp2_with fail
            refine (iExtPads_any (nth QS k) (S : Int) (k : Int) _).mono ?_
            rintro e w31 ⟨rfl, b31⟩
            have z31 := b31.size
            try simp only [World.size_alloc, World.size_setCell, size_drew] at z31
            have B31 : Below w.heap.size w w31 := Below.t b31
            have rr_ := rr.below b31
            clear rr; have rr := rr_; clear rr_
            have ro_ := ro.below b31
            clear ro; have ro := ro_; clear ro_
            have rqq_ := rqq.below b31
            clear rqq; have rqq := rqq_; clear rqq_
            clear hck
            have hb1 := ownIn rqq
            rcases hpd with ⟨hc, hp⟩ | ⟨hc, hp⟩
            · rw [hp]
              replace hp := Lib.hid hp
              replace hc := Lib.hid hc
              go_wp2_with fail
              refine wp_region_held_drew (S := fun W => W.cell? ⟨gR, oR + k, none⟩ = some (.int .i64 (nth rS k)) ∧ W.cell? ⟨gC, oC + k, none⟩ = some (.int .i64 0)) (by kernel_rfl) ⟨(ownCell (l := rS) (rr.drew) (List.mem_cons_self) k (by rw [lr.out]; exact hlt)), (cell_as (ownCell (l := CS) (ro.drew) (List.mem_cons_self) k (by rw [lC.out]; exact hlt)) hc.out)⟩ (fun hS => ?_)
              (refine tk 0 hS ?_; (try simp only [Act.put, layA, layB, layC]))
              (refine tk 1 hS ?_; (try simp only [Act.put, layA, layB, layC]))
              (refine tk 2 hS ?_; (try simp only [Act.put, layA, layB, layC]))
              (refine tk 3 hS ?_; (try simp only [Act.put, layA, layB, layC]))
              (refine tk 4 hS ?_; (try simp only [Act.put, layA, layB, layC]))
              (refine tk 6 hS ?_; (try simp only [Act.put, layA, layB, layC]))
              (refine tk 7 hS ?_; (try simp only [Act.put, layA, layB, layC]))
              (refine tk 9 hS ?_; (try simp only [Act.put, layA, layB, layC]))
              (refine tk 10 hS ?_; (try simp only [Act.put, layA, layB, layC]))
              (refine tk 11 hS ?_; (try simp only [Act.put, layA, layB, layC]))
              (refine tk 12 hS ?_; (try simp only [Act.put, layA, layB, layC]))
              refine forkH (i := 5) (j := 8) (by simp only [List.getElem?_toArray, List.getElem?_cons_succ, List.getElem?_cons_zero] <;> rfl) (by simp only [List.getElem?_toArray, List.getElem?_cons_succ, List.getElem?_cons_zero] <;> rfl) (by kernel_rfl) (by rfl) (by rfl) ?_ ?_
              · refine callH (by go_simp; (first | done | with_reducible rfl | exact ⟨rfl, rfl⟩)) ?_
                go_at_call 68
                refine (sHashLabel_any (nth rS k) (k : Int) _).mono ?_
                rintro e w_ ⟨rfl, rfl⟩
                refine ⟨_, rfl, hS, fun hS => ?_⟩
                (try simp only [Act.put, layA, layB, layC])
                refine on 8 ?_
                refine valueH (by go_simp; (first | done | with_reducible rfl | exact ⟨rfl, rfl⟩)) ?_ (fun hS_ => ?_)
                · exact ⟨(ownCell (l := rS) ((rr.alloc _).drew) (List.mem_cons_self) k (by rw [lr.out]; exact hlt)), (cell_as (ownCell (l := CS) ((ro.alloc _).drew) (List.mem_cons_self) k (by rw [lC.out]; exact hlt)) hc.out)⟩
                clear hS
                have hS := hS_
                clear hS_
                refine wpAnyH_mono (S2 := fun W => W.cell? ⟨w31.heap.size, 0, none⟩ = some (.int .i64 (hashI (nth rS k) (k : Int))) ∧ W.cell? ⟨w31.heap.size, 1, none⟩ = some (.int .i64 (pad1 (nth QS k) (S : Int) (k : Int))) ∧ W.cell? ⟨gR, oR + k, none⟩ = some (.int .i64 (nth rS k)) ∧ W.cell? ⟨gC, oC + k, none⟩ = some (.int .i64 0)) (fun W h => h.2.2) ?_
                clear hS
                have hS : (fun W : World => W.cell? ⟨w31.heap.size, 0, none⟩ = some (.int .i64 (hashI (nth rS k) (k : Int))) ∧ W.cell? ⟨w31.heap.size, 1, none⟩ = some (.int .i64 (pad1 (nth QS k) (S : Int) (k : Int))) ∧ W.cell? ⟨gR, oR + k, none⟩ = some (.int .i64 (nth rS k)) ∧ W.cell? ⟨gC, oC + k, none⟩ = some (.int .i64 0)) _ := ⟨(Box.new (g := w31.heap.size) _ #[.int .i64 (hashI (nth rS k) (k : Int)), .int .i64 (pad1 (nth QS k) (S : Int) (k : Int))] 3 (by simp)).drew.two.1, (Box.new (g := w31.heap.size) _ #[.int .i64 (hashI (nth rS k) (k : Int)), .int .i64 (pad1 (nth QS k) (S : Int) (k : Int))] 3 (by simp)).drew.two.2.1, (ownCell (l := rS) ((rr.alloc _).drew) (List.mem_cons_self) k (by rw [lr.out]; exact hlt)), (cell_as (ownCell (l := CS) ((ro.alloc _).drew) (List.mem_cons_self) k (by rw [lC.out]; exact hlt)) hc.out)⟩
                (try simp only [Act.put, layA, layB, layC])
                (refine tk 13 hS ?_; (try simp only [Act.put, layA, layB, layC]))
                (refine tk 14 hS ?_; (try simp only [Act.put, layA, layB, layC]))
                (refine tk 15 hS ?_; (try simp only [Act.put, layA, layB, layC]))
                clear hS
                refine wpAnyH_done (by kernel_rfl) ?_ _
                generalize hw32 : World.drew _ = w32
                have z32 : w31.heap.size + 1 ≤ w32.heap.size := by rw [← hw32]; simp [size_drew]
                have B32 : Below w.heap.size w w32 := by rw [← hw32]; repeat (with_reducible (first | assumption | exact Below.refl _ _ | refine Below.alloc ?_ (by first | omega | (simp; done) | (simp; omega)) _ | refine Below.setCell ?_ (by first | omega | (simp; done) | (simp; omega)) _ | refine Below.drew ?_ | refine below_drewN ?_ _))
                have hK : ∀ k, k < w31.heap.size → w32.heap[k]? = w31.heap[k]? := by
                  intro k hk; rw [← hw32]
                  repeat (first | rfl | refine (Below.heap_alloc _ _ _ (by first | omega | (simp; omega))).trans ?_)
                have rr_ := rr.keepBlock (w' := w32) (by omega) (fun k h1 h2 => hK k  (by have := rr.2.1; omega))
                clear rr; have rr := rr_; clear rr_
                have ro_ := ro.keepBlock (w' := w32) (by omega) (fun k h1 h2 => hK k  (by have := ro.2.1; omega))
                clear ro; have ro := ro_; clear ro_
                have rqq_ := rqq.keepBlock (w' := w32) (by omega) (fun k h1 h2 => hK k  (by have := rqq.2.1; omega))
                clear rqq; have rqq := rqq_; clear rqq_
                clear hw32 hK
                go_wp2
                go_roundw
                case rel => exact ⟨k + 1, _, _, _, _, _, _, by omega, by go_num, rr, ro, rqq, B32⟩
                case measure => simp [intOf]; omega
              · refine valueH (by go_simp; (first | done | with_reducible rfl | exact ⟨rfl, rfl⟩)) ?_ (fun hS_ => ?_)
                · exact ⟨(ownCell (l := rS) ((rr.alloc _).drew) (List.mem_cons_self) k (by rw [lr.out]; exact hlt)), (cell_as (ownCell (l := CS) ((ro.alloc _).drew) (List.mem_cons_self) k (by rw [lC.out]; exact hlt)) hc.out)⟩
                clear hS
                have hS := hS_
                clear hS_
                refine wpAnyH_mono (S2 := fun W => W.cell? ⟨w31.heap.size, 0, none⟩ = some (.int .i64 (hashI (nth rS k) (k : Int))) ∧ W.cell? ⟨w31.heap.size, 1, none⟩ = some (.int .i64 (pad1 (nth QS k) (S : Int) (k : Int))) ∧ W.cell? ⟨gR, oR + k, none⟩ = some (.int .i64 (nth rS k)) ∧ W.cell? ⟨gC, oC + k, none⟩ = some (.int .i64 0)) (fun W h => h.2.2) ?_
                clear hS
                have hS : (fun W : World => W.cell? ⟨w31.heap.size, 0, none⟩ = some (.int .i64 (hashI (nth rS k) (k : Int))) ∧ W.cell? ⟨w31.heap.size, 1, none⟩ = some (.int .i64 (pad1 (nth QS k) (S : Int) (k : Int))) ∧ W.cell? ⟨gR, oR + k, none⟩ = some (.int .i64 (nth rS k)) ∧ W.cell? ⟨gC, oC + k, none⟩ = some (.int .i64 0)) _ := ⟨(Box.new (g := w31.heap.size) _ #[.int .i64 (hashI (nth rS k) (k : Int)), .int .i64 (pad1 (nth QS k) (S : Int) (k : Int))] 3 (by simp)).drew.two.1, (Box.new (g := w31.heap.size) _ #[.int .i64 (hashI (nth rS k) (k : Int)), .int .i64 (pad1 (nth QS k) (S : Int) (k : Int))] 3 (by simp)).drew.two.2.1, (ownCell (l := rS) ((rr.alloc _).drew) (List.mem_cons_self) k (by rw [lr.out]; exact hlt)), (cell_as (ownCell (l := CS) ((ro.alloc _).drew) (List.mem_cons_self) k (by rw [lC.out]; exact hlt)) hc.out)⟩
                (try simp only [Act.put, layA, layB, layC])
                (refine tk 13 hS ?_; (try simp only [Act.put, layA, layB, layC]))
                (refine tk 14 hS ?_; (try simp only [Act.put, layA, layB, layC]))
                refine on 5 ?_
                refine callH (by go_simp; (first | done | with_reducible rfl | exact ⟨rfl, rfl⟩)) ?_
                go_at_call 68
                refine (sHashLabel_any (nth rS k) (k : Int) _).mono ?_
                rintro e w_ ⟨rfl, rfl⟩
                refine ⟨_, rfl, hS, fun hS => ?_⟩
                (try simp only [Act.put, layA, layB, layC])
                (refine tk 15 hS ?_; (try simp only [Act.put, layA, layB, layC]))
                clear hS
                refine wpAnyH_done (by kernel_rfl) ?_ _
                generalize hw32 : World.drew _ = w32
                have z32 : w31.heap.size + 1 ≤ w32.heap.size := by rw [← hw32]; simp [size_drew]
                have B32 : Below w.heap.size w w32 := by rw [← hw32]; repeat (with_reducible (first | assumption | exact Below.refl _ _ | refine Below.alloc ?_ (by first | omega | (simp; done) | (simp; omega)) _ | refine Below.setCell ?_ (by first | omega | (simp; done) | (simp; omega)) _ | refine Below.drew ?_ | refine below_drewN ?_ _))
                have hK : ∀ k, k < w31.heap.size → w32.heap[k]? = w31.heap[k]? := by
                  intro k hk; rw [← hw32]
                  repeat (first | rfl | refine (Below.heap_alloc _ _ _ (by first | omega | (simp; omega))).trans ?_)
                have rr_ := rr.keepBlock (w' := w32) (by omega) (fun k h1 h2 => hK k  (by have := rr.2.1; omega))
                clear rr; have rr := rr_; clear rr_
                have ro_ := ro.keepBlock (w' := w32) (by omega) (fun k h1 h2 => hK k  (by have := ro.2.1; omega))
                clear ro; have ro := ro_; clear ro_
                have rqq_ := rqq.keepBlock (w' := w32) (by omega) (fun k h1 h2 => hK k  (by have := rqq.2.1; omega))
                clear rqq; have rqq := rqq_; clear rqq_
                clear hw32 hK
                go_wp2
                go_roundw
                case rel => exact ⟨k + 1, _, _, _, _, _, _, by omega, by go_num, rr, ro, rqq, B32⟩
                case measure => simp [intOf]; omega
            · rw [hp]
              replace hp := Lib.hid hp
              replace hc := Lib.hid hc
              go_wp2_with fail
              refine wp_region_held_drew (S := fun W => W.cell? ⟨gR, oR + k, none⟩ = some (.int .i64 (nth rS k)) ∧ W.cell? ⟨gC, oC + k, none⟩ = some (.int .i64 1)) (by kernel_rfl) ⟨(ownCell (l := rS) (rr.drew) (List.mem_cons_self) k (by rw [lr.out]; exact hlt)), (cell_as (ownCell (l := CS) (ro.drew) (List.mem_cons_self) k (by rw [lC.out]; exact hlt)) hc.out)⟩ (fun hS => ?_)
              (refine tk 0 hS ?_; (try simp only [Act.put, layA, layB, layC]))
              (refine tk 1 hS ?_; (try simp only [Act.put, layA, layB, layC]))
              (refine tk 2 hS ?_; (try simp only [Act.put, layA, layB, layC]))
              (refine tk 3 hS ?_; (try simp only [Act.put, layA, layB, layC]))
              (refine tk 4 hS ?_; (try simp only [Act.put, layA, layB, layC]))
              (refine tk 6 hS ?_; (try simp only [Act.put, layA, layB, layC]))
              (refine tk 7 hS ?_; (try simp only [Act.put, layA, layB, layC]))
              (refine tk 9 hS ?_; (try simp only [Act.put, layA, layB, layC]))
              (refine tk 10 hS ?_; (try simp only [Act.put, layA, layB, layC]))
              (refine tk 11 hS ?_; (try simp only [Act.put, layA, layB, layC]))
              (refine tk 12 hS ?_; (try simp only [Act.put, layA, layB, layC]))
              refine forkH (i := 5) (j := 8) (by simp only [List.getElem?_toArray, List.getElem?_cons_succ, List.getElem?_cons_zero] <;> rfl) (by simp only [List.getElem?_toArray, List.getElem?_cons_succ, List.getElem?_cons_zero] <;> rfl) (by kernel_rfl) (by rfl) (by rfl) ?_ ?_
              · refine callH (by go_simp; (first | done | with_reducible rfl | exact ⟨rfl, rfl⟩)) ?_
                go_at_call 68
                refine (sHashLabel_any (nth rS k) (k : Int) _).mono ?_
                rintro e w_ ⟨rfl, rfl⟩
                refine ⟨_, rfl, hS, fun hS => ?_⟩
                (try simp only [Act.put, layA, layB, layC])
                refine on 8 ?_
                refine valueH (by go_simp; (first | done | with_reducible rfl | exact ⟨rfl, rfl⟩)) ?_ (fun hS_ => ?_)
                · exact ⟨(ownCell (l := rS) ((rr.alloc _).drew) (List.mem_cons_self) k (by rw [lr.out]; exact hlt)), (cell_as (ownCell (l := CS) ((ro.alloc _).drew) (List.mem_cons_self) k (by rw [lC.out]; exact hlt)) hc.out)⟩
                clear hS
                have hS := hS_
                clear hS_
                refine wpAnyH_mono (S2 := fun W => W.cell? ⟨w31.heap.size, 0, none⟩ = some (.int .i64 (pad0 (nth QS k) (S : Int) (k : Int))) ∧ W.cell? ⟨w31.heap.size, 1, none⟩ = some (.int .i64 (hashI (nth rS k) (k : Int))) ∧ W.cell? ⟨gR, oR + k, none⟩ = some (.int .i64 (nth rS k)) ∧ W.cell? ⟨gC, oC + k, none⟩ = some (.int .i64 1)) (fun W h => h.2.2) ?_
                clear hS
                have hS : (fun W : World => W.cell? ⟨w31.heap.size, 0, none⟩ = some (.int .i64 (pad0 (nth QS k) (S : Int) (k : Int))) ∧ W.cell? ⟨w31.heap.size, 1, none⟩ = some (.int .i64 (hashI (nth rS k) (k : Int))) ∧ W.cell? ⟨gR, oR + k, none⟩ = some (.int .i64 (nth rS k)) ∧ W.cell? ⟨gC, oC + k, none⟩ = some (.int .i64 1)) _ := ⟨(Box.new (g := w31.heap.size) _ #[.int .i64 (pad0 (nth QS k) (S : Int) (k : Int)), .int .i64 (hashI (nth rS k) (k : Int))] 3 (by simp)).drew.two.1, (Box.new (g := w31.heap.size) _ #[.int .i64 (pad0 (nth QS k) (S : Int) (k : Int)), .int .i64 (hashI (nth rS k) (k : Int))] 3 (by simp)).drew.two.2.1, (ownCell (l := rS) ((rr.alloc _).drew) (List.mem_cons_self) k (by rw [lr.out]; exact hlt)), (cell_as (ownCell (l := CS) ((ro.alloc _).drew) (List.mem_cons_self) k (by rw [lC.out]; exact hlt)) hc.out)⟩
                (try simp only [Act.put, layA, layB, layC])
                (refine tk 13 hS ?_; (try simp only [Act.put, layA, layB, layC]))
                (refine tk 14 hS ?_; (try simp only [Act.put, layA, layB, layC]))
                (refine tk 15 hS ?_; (try simp only [Act.put, layA, layB, layC]))
                clear hS
                refine wpAnyH_done (by kernel_rfl) ?_ _
                generalize hw32 : World.drew _ = w32
                have z32 : w31.heap.size + 1 ≤ w32.heap.size := by rw [← hw32]; simp [size_drew]
                have B32 : Below w.heap.size w w32 := by rw [← hw32]; repeat (with_reducible (first | assumption | exact Below.refl _ _ | refine Below.alloc ?_ (by first | omega | (simp; done) | (simp; omega)) _ | refine Below.setCell ?_ (by first | omega | (simp; done) | (simp; omega)) _ | refine Below.drew ?_ | refine below_drewN ?_ _))
                have hK : ∀ k, k < w31.heap.size → w32.heap[k]? = w31.heap[k]? := by
                  intro k hk; rw [← hw32]
                  repeat (first | rfl | refine (Below.heap_alloc _ _ _ (by first | omega | (simp; omega))).trans ?_)
                have rr_ := rr.keepBlock (w' := w32) (by omega) (fun k h1 h2 => hK k  (by have := rr.2.1; omega))
                clear rr; have rr := rr_; clear rr_
                have ro_ := ro.keepBlock (w' := w32) (by omega) (fun k h1 h2 => hK k  (by have := ro.2.1; omega))
                clear ro; have ro := ro_; clear ro_
                have rqq_ := rqq.keepBlock (w' := w32) (by omega) (fun k h1 h2 => hK k  (by have := rqq.2.1; omega))
                clear rqq; have rqq := rqq_; clear rqq_
                clear hw32 hK
                go_wp2
                go_roundw
                case rel => exact ⟨k + 1, _, _, _, _, _, _, by omega, by go_num, rr, ro, rqq, B32⟩
                case measure => simp [intOf]; omega
              · refine valueH (by go_simp; (first | done | with_reducible rfl | exact ⟨rfl, rfl⟩)) ?_ (fun hS_ => ?_)
                · exact ⟨(ownCell (l := rS) ((rr.alloc _).drew) (List.mem_cons_self) k (by rw [lr.out]; exact hlt)), (cell_as (ownCell (l := CS) ((ro.alloc _).drew) (List.mem_cons_self) k (by rw [lC.out]; exact hlt)) hc.out)⟩
                clear hS
                have hS := hS_
                clear hS_
                refine wpAnyH_mono (S2 := fun W => W.cell? ⟨w31.heap.size, 0, none⟩ = some (.int .i64 (pad0 (nth QS k) (S : Int) (k : Int))) ∧ W.cell? ⟨w31.heap.size, 1, none⟩ = some (.int .i64 (hashI (nth rS k) (k : Int))) ∧ W.cell? ⟨gR, oR + k, none⟩ = some (.int .i64 (nth rS k)) ∧ W.cell? ⟨gC, oC + k, none⟩ = some (.int .i64 1)) (fun W h => h.2.2) ?_
                clear hS
                have hS : (fun W : World => W.cell? ⟨w31.heap.size, 0, none⟩ = some (.int .i64 (pad0 (nth QS k) (S : Int) (k : Int))) ∧ W.cell? ⟨w31.heap.size, 1, none⟩ = some (.int .i64 (hashI (nth rS k) (k : Int))) ∧ W.cell? ⟨gR, oR + k, none⟩ = some (.int .i64 (nth rS k)) ∧ W.cell? ⟨gC, oC + k, none⟩ = some (.int .i64 1)) _ := ⟨(Box.new (g := w31.heap.size) _ #[.int .i64 (pad0 (nth QS k) (S : Int) (k : Int)), .int .i64 (hashI (nth rS k) (k : Int))] 3 (by simp)).drew.two.1, (Box.new (g := w31.heap.size) _ #[.int .i64 (pad0 (nth QS k) (S : Int) (k : Int)), .int .i64 (hashI (nth rS k) (k : Int))] 3 (by simp)).drew.two.2.1, (ownCell (l := rS) ((rr.alloc _).drew) (List.mem_cons_self) k (by rw [lr.out]; exact hlt)), (cell_as (ownCell (l := CS) ((ro.alloc _).drew) (List.mem_cons_self) k (by rw [lC.out]; exact hlt)) hc.out)⟩
                (try simp only [Act.put, layA, layB, layC])
                (refine tk 13 hS ?_; (try simp only [Act.put, layA, layB, layC]))
                (refine tk 14 hS ?_; (try simp only [Act.put, layA, layB, layC]))
                refine on 5 ?_
                refine callH (by go_simp; (first | done | with_reducible rfl | exact ⟨rfl, rfl⟩)) ?_
                go_at_call 68
                refine (sHashLabel_any (nth rS k) (k : Int) _).mono ?_
                rintro e w_ ⟨rfl, rfl⟩
                refine ⟨_, rfl, hS, fun hS => ?_⟩
                (try simp only [Act.put, layA, layB, layC])
                (refine tk 15 hS ?_; (try simp only [Act.put, layA, layB, layC]))
                clear hS
                refine wpAnyH_done (by kernel_rfl) ?_ _
                generalize hw32 : World.drew _ = w32
                have z32 : w31.heap.size + 1 ≤ w32.heap.size := by rw [← hw32]; simp [size_drew]
                have B32 : Below w.heap.size w w32 := by rw [← hw32]; repeat (with_reducible (first | assumption | exact Below.refl _ _ | refine Below.alloc ?_ (by first | omega | (simp; done) | (simp; omega)) _ | refine Below.setCell ?_ (by first | omega | (simp; done) | (simp; omega)) _ | refine Below.drew ?_ | refine below_drewN ?_ _))
                have hK : ∀ k, k < w31.heap.size → w32.heap[k]? = w31.heap[k]? := by
                  intro k hk; rw [← hw32]
                  repeat (first | rfl | refine (Below.heap_alloc _ _ _ (by first | omega | (simp; omega))).trans ?_)
                have rr_ := rr.keepBlock (w' := w32) (by omega) (fun k h1 h2 => hK k  (by have := rr.2.1; omega))
                clear rr; have rr := rr_; clear rr_
                have ro_ := ro.keepBlock (w' := w32) (by omega) (fun k h1 h2 => hK k  (by have := ro.2.1; omega))
                clear ro; have ro := ro_; clear ro_
                have rqq_ := rqq.keepBlock (w' := w32) (by omega) (fun k h1 h2 => hK k  (by have := rqq.2.1; omega))
                clear rqq; have rqq := rqq_; clear rqq_
                clear hw32 hK
                go_wp2
                go_roundw
                case rel => exact ⟨k + 1, _, _, _, _, _, _, by omega, by go_num, rr, ro, rqq, B32⟩
                case measure => simp [intOf]; omega
          · have hkn : ¬ (k : Int) < (N : Int) := by omega
            go_wp2
            go_ret
            exact ⟨rfl, B30⟩
end Go.Proofs.Ytakmgghjpompoaa

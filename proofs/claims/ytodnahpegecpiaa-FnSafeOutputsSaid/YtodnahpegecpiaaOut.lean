/- Contracts of OutputLabels. Printed by mac2.py. -/
import Derived.Test.YtodnahpegecpiaaCok2
namespace Go.Proofs.Ytodnahpegecpiaa
set_option linter.unusedSimpArgs false
set_option linter.unusedVariables false
open Go.RowKit
theorem circ_out {l : List (Int × Int × Int)} {o : List Int} (h : circOk l o = true) {k : Nat} (hk : k < o.length) : ∃ m : Nat, nth o k = m ∧ m < l.length := by
  have h2 : outsOk l.length o = true := (and_true_of h).2
  have h3 := inB_iff.1 (all_nth h2 hk)
  obtain ⟨m, hm⟩ := Int.eq_ofNat_of_zero_le h3.1
  exact ⟨m, hm, by omega⟩
theorem circ_gate {l : List (Int × Int × Int)} {o : List Int} (h : circOk l o = true) {k : Nat} (hk : k < l.length) : gateOk (gAt l k).1 (gAt l k).2.1 (gAt l k).2.2 (k : Int) = true :=
  gatesTo_at (and_true_of (and_true_of h).1).2 hk
theorem circ_len {l : List (Int × Int × Int)} {o : List Int} (h : circOk l o = true) : l.length ≤ 6000 := of_decide_eq_true (and_true_of (and_true_of h).1).1
def outF (o ws : List Int) (k : Nat) : Int := nth ws (nth o k).toNat
def outOk (l : List (Int × Int × Int)) (o ws : List Int) : Bool := circOk l o && ((ws.length : Int) == (l.length : Int))
def outL (l : List (Int × Int × Int)) (o ws : List Int) : List Int := if outOk l o ws then genL (outF o ws) o.length else []
theorem outL_yes {l : List (Int × Int × Int)} {o ws : List Int} (h : outOk l o ws = true) : outL l o ws = genL (outF o ws) o.length := by simp [outL, h]
theorem outL_no {l : List (Int × Int × Int)} {o ws : List Int} (h : outOk l o ws = false) : outL l o ws = [] := by simp [outL, h]
theorem outL_len (l : List (Int × Int × Int)) (o ws : List Int) : (outL l o ws).length ≤ o.length := by unfold outL; split <;> simp [genL_len]
set_option maxRecDepth 100000 in
set_option maxHeartbeats 2000000 in
theorem sOutputLabels_L {cA0 : Option Addr} {cn0 cc0 : Nat} {cL0 : List (Int × Int × Int)} {cA1 : Option Addr} {cn1 cc1 : Nat} {cL1 : List Int} {yA0 : Option Addr} {yn0 yc0 : Nat} {yL0 : List Int} {w : World} (cH : RdL w [((.slice cA0 cn0 cc0), .gates cL0), ((.slice cA1 cn1 cc1), .ints cL1)]) (cL0n : cL0.length ≤ 1048576) (cL1n : cL1.length ≤ 1048576) (yH : RdL w [((.slice yA0 yn0 yc0), .ints yL0)]) (yL0n : yL0.length ≤ 1048576) :
    Calls Try.prog 48 #[.agg #[(.slice cA0 cn0 cc0), (.slice cA1 cn1 cc1)], (.slice yA0 yn0 yc0)] w fun e w' => ∃ rA0 rn0 rc0, e = .returned (.slice rA0 rn0 rc0) ∧ OwnL w' w.heap.size w'.heap.size [(.slice rA0 rn0 rc0, .ints (outL cL0 cL1 yL0))] ∧ Below w.heap.size w w' := by
  have cL0g : Gates w cA0 cn0 cL0 := RdG.toG (cH ((.slice cA0 cn0 cc0), .gates cL0) (by simp))
  have cL0l := Lib.hid cL0g.1
  have cL0m : cn0 ≤ 1048576 := by rw [← cL0l.out]; exact cL0n
  have cL1i : Ints w cA1 cn1 cL1 := Rd.toInts (cH ((.slice cA1 cn1 cc1), .ints cL1) (by simp))
  have cL1l := Lib.hid cL1i.len
  have cL1m : cn1 ≤ 1048576 := by rw [← cL1l.out]; exact cL1n
  have yL0i : Ints w yA0 yn0 yL0 := Rd.toInts (yH ((.slice yA0 yn0 yc0), .ints yL0) (by simp))
  have yL0l := Lib.hid yL0i.len
  have yL0m : yn0 ≤ 1048576 := by rw [← yL0l.out]; exact yL0n
  cases k1 : circOk cL0 cL1 with
  | false =>
    have HO2 : Hid (outOk cL0 cL1 yL0 = false) := by show _ = _; rw [outOk, k1]; rfl
    go_enter Try.func48, Try.ntmps48
    have HO := Lib.hid cL1i
    have HY := Lib.hid yL0i
    go_wp2_with fail
    generalize hw1 : World.alloc _ _ = w1
    have z1 : w.heap.size + 1 + 1 ≤ w1.heap.size := by rw [← hw1]; simp
    have B1 : Below w.heap.size w w1 := by rw [← hw1]; repeat (with_reducible (first | assumption | exact Below.refl _ _ | refine Below.alloc ?_ (by first | omega | (simp; done) | (simp; omega)) _ | refine Below.setCell ?_ (by first | omega | (simp; done) | (simp; omega)) _ | refine Below.drew ?_ | refine below_drewN ?_ _))
    have xc_ : Box w1 (w.heap.size) #[(.slice cA0 cn0 cc0), (.slice cA1 cn1 cc1)] 27 := (by rw [← hw1]; exact ((Box.new (g := w.heap.size) _ #[(.slice cA0 cn0 cc0), (.slice cA1 cn1 cc1)] 27 (by simp)).alloc _))
    have xc := xc_; clear xc_
    have xo_ : Box w1 (w.heap.size + 1) #[] 3 := (by rw [← hw1]; exact (Box.new (g := w.heap.size + 1) _ #[] 3 (by simp)))
    have xo := xo_; clear xo_
    clear hw1
    have ro := OwnL.lit0 xo
    refine wp_loop_rounds 1 ?_
    rw [rounds_succ]
    by_cases h0 : cn1 = 0
    · subst h0
      obtain ⟨cxc_0, cxc_1, fxc_0, fxc_1⟩ := xc.two
      have l_xc_0 : w.heap.size < w1.heap.size := by omega
      go_wp2
      refine bodyPost_ret (v := .slice (some ⟨w.heap.size + 1, 0, none⟩) 0 0) (by simp [results, go_sem, Try.results48]) rfl ⟨_, _, _, rfl, ?_, ?_⟩
      · rw [outL_no HO2.out]; exact OwnL.mono ro (by omega) (by first | omega | (simp [size_drew]; done) | (simp [size_drew]; omega)) (Nat.le_refl _)
      · repeat (with_reducible (first | assumption | exact Below.refl _ _ | refine Below.alloc ?_ (by first | omega | (simp; done) | (simp; omega)) _ | refine Below.setCell ?_ (by first | omega | (simp; done) | (simp; omega)) _ | refine Below.drew ?_ | refine below_drewN ?_ _))
    · have h1 : 0 < cn1 := by omega
      obtain ⟨cxc_0, cxc_1, fxc_0, fxc_1⟩ := xc.two
      have l_xc_0 : w.heap.size < w1.heap.size := by omega
      go_wp2_with fail
      refine (sCircuitOk_L (RdL.b cH) cL0n cL1n).mono ?_
      rintro e w2 ⟨rfl, b2⟩
      clear cxc_0 cxc_1 fxc_0 fxc_1 l_xc_0
      have z2 := b2.size
      try simp only [World.size_alloc, World.size_setCell, size_drew] at z2
      have B2 : Below w.heap.size w w2 := Below.t b2
      have ro_ := ro.below b2
      clear ro; have ro := ro_; clear ro_
      have xc_ : Box w2 (w.heap.size) #[(.slice cA0 cn0 cc0), (.slice cA1 cn1 cc1)] 27 := xc.below b2 (by first | omega | (simp [size_drew]; done) | (simp [size_drew]; omega))
      clear xc; have xc := xc_; clear xc_
      rw [k1]
      obtain ⟨cxc_0, cxc_1, fxc_0, fxc_1⟩ := xc.two
      have l_xc_0 : w.heap.size < w2.heap.size := by omega
      go_wp2
      refine bodyPost_ret (v := .slice (some ⟨w.heap.size + 1, 0, none⟩) 0 0) (by simp [results, go_sem, Try.results48]) rfl ⟨_, _, _, rfl, ?_, ?_⟩
      · rw [outL_no HO2.out]; exact OwnL.mono ro (by omega) (by first | omega | (simp [size_drew]; done) | (simp [size_drew]; omega)) (Nat.le_refl _)
      · repeat (with_reducible (first | assumption | exact Below.refl _ _ | refine Below.alloc ?_ (by first | omega | (simp; done) | (simp; omega)) _ | refine Below.setCell ?_ (by first | omega | (simp; done) | (simp; omega)) _ | refine Below.drew ?_ | refine below_drewN ?_ _))
  | true =>
    cases k2 : ((yn0 : Int) == (cn0 : Int)) with
    | false =>
      have HO2 : Hid (outOk cL0 cL1 yL0 = false) := by show _ = _; rw [outOk, cL0l.out, yL0l.out, k1, k2]; rfl
      have k2' : ((yn0 : Int) != (cn0 : Int)) = true := by simp at k2 ⊢; omega
      go_enter Try.func48, Try.ntmps48
      have HO := Lib.hid cL1i
      have HY := Lib.hid yL0i
      go_wp2_with fail
      generalize hw1 : World.alloc _ _ = w1
      have z1 : w.heap.size + 1 + 1 ≤ w1.heap.size := by rw [← hw1]; simp
      have B1 : Below w.heap.size w w1 := by rw [← hw1]; repeat (with_reducible (first | assumption | exact Below.refl _ _ | refine Below.alloc ?_ (by first | omega | (simp; done) | (simp; omega)) _ | refine Below.setCell ?_ (by first | omega | (simp; done) | (simp; omega)) _ | refine Below.drew ?_ | refine below_drewN ?_ _))
      have xc_ : Box w1 (w.heap.size) #[(.slice cA0 cn0 cc0), (.slice cA1 cn1 cc1)] 27 := (by rw [← hw1]; exact ((Box.new (g := w.heap.size) _ #[(.slice cA0 cn0 cc0), (.slice cA1 cn1 cc1)] 27 (by simp)).alloc _))
      have xc := xc_; clear xc_
      have xo_ : Box w1 (w.heap.size + 1) #[] 3 := (by rw [← hw1]; exact (Box.new (g := w.heap.size + 1) _ #[] 3 (by simp)))
      have xo := xo_; clear xo_
      clear hw1
      have ro := OwnL.lit0 xo
      refine wp_loop_rounds 1 ?_
      rw [rounds_succ]
      by_cases h0 : cn1 = 0
      · subst h0
        obtain ⟨cxc_0, cxc_1, fxc_0, fxc_1⟩ := xc.two
        have l_xc_0 : w.heap.size < w1.heap.size := by omega
        go_wp2
        refine bodyPost_ret (v := .slice (some ⟨w.heap.size + 1, 0, none⟩) 0 0) (by simp [results, go_sem, Try.results48]) rfl ⟨_, _, _, rfl, ?_, ?_⟩
        · rw [outL_no HO2.out]; exact OwnL.mono ro (by omega) (by first | omega | (simp [size_drew]; done) | (simp [size_drew]; omega)) (Nat.le_refl _)
        · repeat (with_reducible (first | assumption | exact Below.refl _ _ | refine Below.alloc ?_ (by first | omega | (simp; done) | (simp; omega)) _ | refine Below.setCell ?_ (by first | omega | (simp; done) | (simp; omega)) _ | refine Below.drew ?_ | refine below_drewN ?_ _))
      · have h1 : 0 < cn1 := by omega
        obtain ⟨cxc_0, cxc_1, fxc_0, fxc_1⟩ := xc.two
        have l_xc_0 : w.heap.size < w1.heap.size := by omega
        go_wp2_with fail
        refine (sCircuitOk_L (RdL.b cH) cL0n cL1n).mono ?_
        rintro e w2 ⟨rfl, b2⟩
        clear cxc_0 cxc_1 fxc_0 fxc_1 l_xc_0
        have z2 := b2.size
        try simp only [World.size_alloc, World.size_setCell, size_drew] at z2
        have B2 : Below w.heap.size w w2 := Below.t b2
        have ro_ := ro.below b2
        clear ro; have ro := ro_; clear ro_
        have xc_ : Box w2 (w.heap.size) #[(.slice cA0 cn0 cc0), (.slice cA1 cn1 cc1)] 27 := xc.below b2 (by first | omega | (simp [size_drew]; done) | (simp [size_drew]; omega))
        clear xc; have xc := xc_; clear xc_
        rw [k1]
        obtain ⟨cxc_0, cxc_1, fxc_0, fxc_1⟩ := xc.two
        have l_xc_0 : w.heap.size < w2.heap.size := by omega
        go_wp2
        refine bodyPost_ret (v := .slice (some ⟨w.heap.size + 1, 0, none⟩) 0 0) (by simp [results, go_sem, Try.results48]) rfl ⟨_, _, _, rfl, ?_, ?_⟩
        · rw [outL_no HO2.out]; exact OwnL.mono ro (by omega) (by first | omega | (simp [size_drew]; done) | (simp [size_drew]; omega)) (Nat.le_refl _)
        · repeat (with_reducible (first | assumption | exact Below.refl _ _ | refine Below.alloc ?_ (by first | omega | (simp; done) | (simp; omega)) _ | refine Below.setCell ?_ (by first | omega | (simp; done) | (simp; omega)) _ | refine Below.drew ?_ | refine below_drewN ?_ _))
    | true =>
      have HO2 : Hid (outOk cL0 cL1 yL0 = true) := by show _ = _; rw [outOk, cL0l.out, yL0l.out, k1, k2]; rfl
      have k2' : ((yn0 : Int) != (cn0 : Int)) = false := by simp at k2 ⊢; omega
      go_enter Try.func48, Try.ntmps48
      have HK := Lib.hid k1
      have HO := Lib.hid cL1i
      have HY := Lib.hid yL0i
      have q2 := Lib.hid (show yn0 = cn0 by simp at k2; omega)
      go_wp2_with fail
      generalize hw1 : World.alloc _ _ = w1
      have z1 : w.heap.size + 1 + 1 ≤ w1.heap.size := by rw [← hw1]; simp
      have B1 : Below w.heap.size w w1 := by rw [← hw1]; repeat (with_reducible (first | assumption | exact Below.refl _ _ | refine Below.alloc ?_ (by first | omega | (simp; done) | (simp; omega)) _ | refine Below.setCell ?_ (by first | omega | (simp; done) | (simp; omega)) _ | refine Below.drew ?_ | refine below_drewN ?_ _))
      have xc_ : Box w1 (w.heap.size) #[(.slice cA0 cn0 cc0), (.slice cA1 cn1 cc1)] 27 := (by rw [← hw1]; exact ((Box.new (g := w.heap.size) _ #[(.slice cA0 cn0 cc0), (.slice cA1 cn1 cc1)] 27 (by simp)).alloc _))
      have xc := xc_; clear xc_
      have xo_ : Box w1 (w.heap.size + 1) #[] 3 := (by rw [← hw1]; exact (Box.new (g := w.heap.size + 1) _ #[] 3 (by simp)))
      have xo := xo_; clear xo_
      clear hw1
      have ro := OwnL.lit0 xo
      go_loopw [5, 6] (fun v i wr => ∃ (k : Nat) (A : Option Addr) (n c : Nat), k ≤ cn1 ∧ i = .int .i64 k ∧ v = .slice A n c ∧ Hid (OwnL wr (w.heap.size + 1) wr.heap.size [(.slice A n c, .ints (genL (outF cL1 yL0) k))]) ∧ Hid (Box wr (w.heap.size) #[(.slice cA0 cn0 cc0), (.slice cA1 cn1 cc1)] 27) ∧ Below w.heap.size w wr) (fun v i wr => cn1 - (intOf i).toNat)
      case atStart => exact ⟨0, _, _, _, by omega, rfl, rfl, OwnL.mono ro (by omega) (by first | omega | (simp [size_drew]; done) | (simp [size_drew]; omega)) (Nat.le_refl _), xc, B1⟩
      case round =>
        obtain ⟨k, vA, vn, vc, hk, rfl, rfl, ro, xc, B9⟩ := hrel
        obtain ⟨w9, hw9⟩ : ∃ x, x = wr := ⟨wr, rfl⟩
        subst hw9
        have ro := ro.out
        have xc := xc.out
        have zb_xc := xc.lt
        have hsn := Lib.hid (genL_snoc (outF cL1 yL0) k)
        have hgl := Lib.hid (genL_len (outF cL1 yL0) k)
        have z9 := B9.size
        by_cases hlt : k < cn1
        · obtain ⟨cxc_0, cxc_1, fxc_0, fxc_1⟩ := xc.two
          have l_xc_0 : w.heap.size < w9.heap.size := by omega
          go_wp2_with fail
          refine (sCircuitOk_L (RdL.b cH) cL0n cL1n).mono ?_
          rintro e w10 ⟨rfl, b10⟩
          clear cxc_0 cxc_1 fxc_0 fxc_1 l_xc_0
          have z10 := b10.size
          try simp only [World.size_alloc, World.size_setCell, size_drew] at z10
          have B10 : Below w.heap.size w w10 := Below.t b10
          have ro_ := ro.below b10
          clear ro; have ro := ro_; clear ro_
          have xc_ : Box w10 (w.heap.size) #[(.slice cA0 cn0 cc0), (.slice cA1 cn1 cc1)] 27 := xc.below b10 (by first | omega | (simp [size_drew]; done) | (simp [size_drew]; omega))
          clear xc; have xc := xc_; clear xc_
          rw [k1]
          obtain ⟨m, hm, hmlt⟩ := circ_out HK.out (k := k) (by rw [cL1l.out]; exact hlt)
          have hm1 := Lib.hid hm
          have hmlt : m < cn0 := by rw [← cL0l.out]; exact hmlt
          obtain ⟨g, o, rfl, hg, hc⟩ := HO.out.block (by omega)
          have hco := hc k hlt
          clear hc
          rw [hm1.out] at hco
          clear hm
          have hmy : m < yn0 := by have := q2.out; omega
          obtain ⟨g2, g2o, rfl, g2h, hc⟩ := HY.out.block (by have := q2.out; omega)
          have hcy := hc m (by have := q2.out; omega)
          clear hc
          have hF := Lib.hid (show outF cL1 yL0 k = nth yL0 m by rw [outF, hm1.out]; rfl)
          have h1 : w10.cell? ⟨g, o + k, none⟩ = some (.int .i64 (m : Int)) := ((Below.cell (w := w) (by repeat (with_reducible (first | assumption | exact Below.refl _ _ | refine Below.alloc ?_ (by first | omega | (simp; done) | (simp; omega)) _ | refine Below.setCell ?_ (by first | omega | (simp; done) | (simp; omega)) _ | refine Below.drew ?_ | refine below_drewN ?_ _))) hg).trans hco)
          have h2 : w10.cell? ⟨g2, g2o + m, none⟩ = some (.int .i64 (nth yL0 m)) := ((Below.cell (w := w) (by repeat (with_reducible (first | assumption | exact Below.refl _ _ | refine Below.alloc ?_ (by first | omega | (simp; done) | (simp; omega)) _ | refine Below.setCell ?_ (by first | omega | (simp; done) | (simp; omega)) _ | refine Below.drew ?_ | refine below_drewN ?_ _))) g2h).trans hcy)
          obtain ⟨cxc_0, cxc_1, fxc_0, fxc_1⟩ := xc.two
          have l_xc_0 : w.heap.size < w10.heap.size := by omega
          go_wp2_with (at_builtin; go_must (refine append_N rfl _ _ rfl (nth yL0 m) _ rfl rfl ro (by first | rfl | simp) (by have := hgl.out; omega) ?_); intro qA qn qc w11 ro_ c11)
          have z11 := c11.size
          (try simp only [World.size_alloc, World.size_setCell, size_drew] at z11)
          have B11 : Below w.heap.size w w11 := Below.trans (b := _) (by repeat (with_reducible (first | assumption | exact Below.refl _ _ | refine Below.alloc ?_ (by first | omega | (simp; done) | (simp; omega)) _ | refine Below.setCell ?_ (by first | omega | (simp; done) | (simp; omega)) _ | refine Below.drew ?_ | refine below_drewN ?_ _))) (c11.below (by omega) (by first | omega | (simp [size_drew]; done) | (simp [size_drew]; omega)))
          clear ro; have ro := ro_; clear ro_
          have xc_ : Box w11 (w.heap.size) #[(.slice cA0 cn0 cc0), .slice (some ⟨g, o, none⟩) cn1 cc1] 27 := xc.chg c11 (by omega)
          clear xc; have xc := xc_; clear xc_
          rw [← hF.out] at ro
          go_wp2
          go_roundw
          case rel => exact ⟨k + 1, _, _, _, by omega, by go_num, rfl, by rw [hsn.out]; exact OwnL.mono ro (by omega) (by first | omega | (simp [size_drew]; done) | (simp [size_drew]; omega)) (Nat.le_refl _), xc, B11⟩
          case measure => simp [intOf]; omega
        · have hkn : k = cn1 := by omega
          obtain ⟨cxc_0, cxc_1, fxc_0, fxc_1⟩ := xc.two
          have l_xc_0 : w.heap.size < w9.heap.size := by omega
          go_wp2
          refine bodyPost_ret (v := .slice vA vn vc) (by simp [results, go_sem, Try.results48]) rfl ⟨_, _, _, rfl, ?_, ?_⟩
          · rw [outL_yes HO2.out, cL1l.out, ← hkn]; exact OwnL.mono ro (by omega) (by first | omega | (simp [size_drew]; done) | (simp [size_drew]; omega)) (Nat.le_refl _)
          · repeat (with_reducible (first | assumption | exact Below.refl _ _ | refine Below.alloc ?_ (by first | omega | (simp; done) | (simp; omega)) _ | refine Below.setCell ?_ (by first | omega | (simp; done) | (simp; omega)) _ | refine Below.drew ?_ | refine below_drewN ?_ _))
set_option maxRecDepth 100000 in
set_option maxHeartbeats 2000000 in
theorem iOutputLabels_L {cA0 : Option Addr} {cn0 cc0 : Nat} {cL0 : List (Int × Int × Int)} {cA1 : Option Addr} {cn1 cc1 : Nat} {cL1 : List Int} {yA0 : Option Addr} {yn0 yc0 : Nat} {yL0 : List Int} {w : World} (cH : RdL w [((.slice cA0 cn0 cc0), .gates cL0), ((.slice cA1 cn1 cc1), .ints cL1)]) (cL0n : cL0.length ≤ 1048576) (cL1n : cL1.length ≤ 1048576) (yH : RdL w [((.slice yA0 yn0 yc0), .ints yL0)]) (yL0n : yL0.length ≤ 1048576) :
    Calls Try.prog 50 #[.agg #[(.slice cA0 cn0 cc0), (.slice cA1 cn1 cc1)], (.slice yA0 yn0 yc0)] w fun e w' => ∃ rA0 rn0 rc0, e = .returned (.slice rA0 rn0 rc0) ∧ OwnL w' w.heap.size w'.heap.size [(.slice rA0 rn0 rc0, .ints (outL cL0 cL1 yL0))] ∧ Below w.heap.size w w' := by
  have cL0g : Gates w cA0 cn0 cL0 := RdG.toG (cH ((.slice cA0 cn0 cc0), .gates cL0) (by simp))
  have cL0l := Lib.hid cL0g.1
  have cL0m : cn0 ≤ 1048576 := by rw [← cL0l.out]; exact cL0n
  have cL1i : Ints w cA1 cn1 cL1 := Rd.toInts (cH ((.slice cA1 cn1 cc1), .ints cL1) (by simp))
  have cL1l := Lib.hid cL1i.len
  have cL1m : cn1 ≤ 1048576 := by rw [← cL1l.out]; exact cL1n
  have yL0i : Ints w yA0 yn0 yL0 := Rd.toInts (yH ((.slice yA0 yn0 yc0), .ints yL0) (by simp))
  have yL0l := Lib.hid yL0i.len
  have yL0m : yn0 ≤ 1048576 := by rw [← yL0l.out]; exact yL0n
  cases k1 : circOk cL0 cL1 with
  | false =>
    have HO2 : Hid (outOk cL0 cL1 yL0 = false) := by show _ = _; rw [outOk, k1]; rfl
    go_enter Try.func50, Try.ntmps50
    go_wp2_with fail
    refine (iCircuitOk_L (RdL.b cH) cL0n cL1n).mono ?_
    rintro e w1 ⟨rfl, b1⟩
    have z1 := b1.size
    try simp only [World.size_alloc, World.size_setCell, size_drew] at z1
    have B1 : Below w.heap.size w w1 := Below.t b1
    have xc_ : Box w1 (w.heap.size) #[(.slice cA0 cn0 cc0), (.slice cA1 cn1 cc1)] 27 := (Box.new (g := w.heap.size) _ #[(.slice cA0 cn0 cc0), (.slice cA1 cn1 cc1)] 27 (by simp)).below b1 (by first | omega | (simp [size_drew]; done) | (simp [size_drew]; omega))
    have xc := xc_; clear xc_
    rw [k1]
    obtain ⟨cxc_0, cxc_1, fxc_0, fxc_1⟩ := xc.two
    have l_xc_0 : w.heap.size < w1.heap.size := by omega
    go_wp2
    refine bodyPost_ret (v := .slice none 0 0) (by simp [results, go_sem, Try.results50]) rfl ⟨none, 0, 0, rfl, ?_, ?_⟩
    · rw [outL_no HO2.out]; exact OwnL.nones _ (by simp) (by first | omega | (simp [size_drew]; done) | (simp [size_drew]; omega))
    · repeat (with_reducible (first | assumption | exact Below.refl _ _ | refine Below.alloc ?_ (by first | omega | (simp; done) | (simp; omega)) _ | refine Below.setCell ?_ (by first | omega | (simp; done) | (simp; omega)) _ | refine Below.drew ?_ | refine below_drewN ?_ _))
  | true =>
    cases k2 : ((yn0 : Int) == (cn0 : Int)) with
    | false =>
      have HO2 : Hid (outOk cL0 cL1 yL0 = false) := by show _ = _; rw [outOk, cL0l.out, yL0l.out, k1, k2]; rfl
      have k2' : ((yn0 : Int) != (cn0 : Int)) = true := by simp at k2 ⊢; omega
      go_enter Try.func50, Try.ntmps50
      go_wp2_with fail
      refine (iCircuitOk_L (RdL.b cH) cL0n cL1n).mono ?_
      rintro e w1 ⟨rfl, b1⟩
      have z1 := b1.size
      try simp only [World.size_alloc, World.size_setCell, size_drew] at z1
      have B1 : Below w.heap.size w w1 := Below.t b1
      have xc_ : Box w1 (w.heap.size) #[(.slice cA0 cn0 cc0), (.slice cA1 cn1 cc1)] 27 := (Box.new (g := w.heap.size) _ #[(.slice cA0 cn0 cc0), (.slice cA1 cn1 cc1)] 27 (by simp)).below b1 (by first | omega | (simp [size_drew]; done) | (simp [size_drew]; omega))
      have xc := xc_; clear xc_
      rw [k1]
      obtain ⟨cxc_0, cxc_1, fxc_0, fxc_1⟩ := xc.two
      have l_xc_0 : w.heap.size < w1.heap.size := by omega
      go_wp2
      refine bodyPost_ret (v := .slice none 0 0) (by simp [results, go_sem, Try.results50]) rfl ⟨none, 0, 0, rfl, ?_, ?_⟩
      · rw [outL_no HO2.out]; exact OwnL.nones _ (by simp) (by first | omega | (simp [size_drew]; done) | (simp [size_drew]; omega))
      · repeat (with_reducible (first | assumption | exact Below.refl _ _ | refine Below.alloc ?_ (by first | omega | (simp; done) | (simp; omega)) _ | refine Below.setCell ?_ (by first | omega | (simp; done) | (simp; omega)) _ | refine Below.drew ?_ | refine below_drewN ?_ _))
    | true =>
      have HO2 : Hid (outOk cL0 cL1 yL0 = true) := by show _ = _; rw [outOk, cL0l.out, yL0l.out, k1, k2]; rfl
      have k2' : ((yn0 : Int) != (cn0 : Int)) = false := by simp at k2 ⊢; omega
      go_enter Try.func50, Try.ntmps50
      go_wp2_with fail
      refine (iCircuitOk_L (RdL.b cH) cL0n cL1n).mono ?_
      rintro e w1 ⟨rfl, b1⟩
      have z1 := b1.size
      try simp only [World.size_alloc, World.size_setCell, size_drew] at z1
      have B1 : Below w.heap.size w w1 := Below.t b1
      have xc_ : Box w1 (w.heap.size) #[(.slice cA0 cn0 cc0), (.slice cA1 cn1 cc1)] 27 := (Box.new (g := w.heap.size) _ #[(.slice cA0 cn0 cc0), (.slice cA1 cn1 cc1)] 27 (by simp)).below b1 (by first | omega | (simp [size_drew]; done) | (simp [size_drew]; omega))
      have xc := xc_; clear xc_
      rw [k1]
      have HK := Lib.hid k1
      have HO := Lib.hid cL1i
      have HY := Lib.hid yL0i
      have q2 := Lib.hid (show yn0 = cn0 by simp at k2; omega)
      obtain ⟨cxc_0, cxc_1, fxc_0, fxc_1⟩ := xc.two
      have l_xc_0 : w.heap.size < w1.heap.size := by omega
      have l_xc_1 : w.heap.size < w1.heap.size + 1 := by omega
      go_wp2_with fail
      clear cxc_0 cxc_1 fxc_0 fxc_1 l_xc_0 l_xc_1
      generalize hw2 : World.alloc _ _ = w2
      have z2 : w1.heap.size + 1 ≤ w2.heap.size := by rw [← hw2]; simp
      have B2 : Below w.heap.size w w2 := by rw [← hw2]; repeat (with_reducible (first | assumption | exact Below.refl _ _ | refine Below.alloc ?_ (by first | omega | (simp; done) | (simp; omega)) _ | refine Below.setCell ?_ (by first | omega | (simp; done) | (simp; omega)) _ | refine Below.drew ?_ | refine below_drewN ?_ _))
      have xc_ : Box w2 (w.heap.size) #[(.slice cA0 cn0 cc0), (.slice cA1 cn1 cc1)] 27 := (by rw [← hw2]; exact (xc.alloc _))
      clear xc; have xc := xc_; clear xc_
      have xo_ : Box w2 (w1.heap.size) #[] 3 := (by rw [← hw2]; exact (Box.new (g := w1.heap.size) _ #[] 3 (by simp)))
      have xo := xo_; clear xo_
      clear hw2
      have ro := OwnL.lit0 xo
      go_loopw [5, 23] (fun v i wr => ∃ (k : Nat) (A : Option Addr) (n c : Nat), k ≤ cn1 ∧ i = .int .i64 k ∧ v = .slice A n c ∧ Hid (OwnL wr (w.heap.size + 1) wr.heap.size [(.slice A n c, .ints (genL (outF cL1 yL0) k))]) ∧ Hid (Box wr (w.heap.size) #[(.slice cA0 cn0 cc0), (.slice cA1 cn1 cc1)] 27) ∧ Below w.heap.size w wr) (fun v i wr => cn1 - (intOf i).toNat)
      case atStart => exact ⟨0, _, _, _, by omega, rfl, rfl, OwnL.mono ro (by omega) (by first | omega | (simp [size_drew]; done) | (simp [size_drew]; omega)) (Nat.le_refl _), xc, B2⟩
      case round =>
        obtain ⟨k, vA, vn, vc, hk, rfl, rfl, ro, xc, B9⟩ := hrel
        obtain ⟨w9, hw9⟩ : ∃ x, x = wr := ⟨wr, rfl⟩
        subst hw9
        have ro := ro.out
        have xc := xc.out
        have zb_xc := xc.lt
        have hsn := Lib.hid (genL_snoc (outF cL1 yL0) k)
        have hgl := Lib.hid (genL_len (outF cL1 yL0) k)
        have z9 := B9.size
        by_cases hlt : k < cn1
        · obtain ⟨m, hm, hmlt⟩ := circ_out HK.out (k := k) (by rw [cL1l.out]; exact hlt)
          have hm1 := Lib.hid hm
          have hmlt : m < cn0 := by rw [← cL0l.out]; exact hmlt
          obtain ⟨g, o, rfl, hg, hc⟩ := HO.out.block (by omega)
          have hco := hc k hlt
          clear hc
          rw [hm1.out] at hco
          clear hm
          have hmy : m < yn0 := by have := q2.out; omega
          obtain ⟨g2, g2o, rfl, g2h, hc⟩ := HY.out.block (by have := q2.out; omega)
          have hcy := hc m (by have := q2.out; omega)
          clear hc
          have hF := Lib.hid (show outF cL1 yL0 k = nth yL0 m by rw [outF, hm1.out]; rfl)
          have h1 : w9.cell? ⟨g, o + k, none⟩ = some (.int .i64 (m : Int)) := ((Below.cell (w := w) (by repeat (with_reducible (first | assumption | exact Below.refl _ _ | refine Below.alloc ?_ (by first | omega | (simp; done) | (simp; omega)) _ | refine Below.setCell ?_ (by first | omega | (simp; done) | (simp; omega)) _ | refine Below.drew ?_ | refine below_drewN ?_ _))) hg).trans hco)
          have h2 : w9.cell? ⟨g2, g2o + m, none⟩ = some (.int .i64 (nth yL0 m)) := ((Below.cell (w := w) (by repeat (with_reducible (first | assumption | exact Below.refl _ _ | refine Below.alloc ?_ (by first | omega | (simp; done) | (simp; omega)) _ | refine Below.setCell ?_ (by first | omega | (simp; done) | (simp; omega)) _ | refine Below.drew ?_ | refine below_drewN ?_ _))) g2h).trans hcy)
          obtain ⟨cxc_0, cxc_1, fxc_0, fxc_1⟩ := xc.two
          have l_xc_0 : w.heap.size < w9.heap.size := by omega
          go_wp2_with (at_builtin; go_must (refine append_N rfl _ _ rfl (nth yL0 m) _ rfl rfl ro (by first | rfl | simp) (by have := hgl.out; omega) ?_); intro qA qn qc w10 ro_ c10)
          have z10 := c10.size
          (try simp only [World.size_alloc, World.size_setCell, size_drew] at z10)
          have B10 : Below w.heap.size w w10 := Below.trans (b := _) (by repeat (with_reducible (first | assumption | exact Below.refl _ _ | refine Below.alloc ?_ (by first | omega | (simp; done) | (simp; omega)) _ | refine Below.setCell ?_ (by first | omega | (simp; done) | (simp; omega)) _ | refine Below.drew ?_ | refine below_drewN ?_ _))) (c10.below (by omega) (by first | omega | (simp [size_drew]; done) | (simp [size_drew]; omega)))
          clear ro; have ro := ro_; clear ro_
          have xc_ : Box w10 (w.heap.size) #[(.slice cA0 cn0 cc0), .slice (some ⟨g, o, none⟩) cn1 cc1] 27 := xc.chg c10 (by omega)
          clear xc; have xc := xc_; clear xc_
          rw [← hF.out] at ro
          go_wp2
          go_roundw
          case rel => exact ⟨k + 1, _, _, _, by omega, by go_num, rfl, by rw [hsn.out]; exact OwnL.mono ro (by omega) (by first | omega | (simp [size_drew]; done) | (simp [size_drew]; omega)) (Nat.le_refl _), xc, B10⟩
          case measure => simp [intOf]; omega
        · have hkn : k = cn1 := by omega
          obtain ⟨cxc_0, cxc_1, fxc_0, fxc_1⟩ := xc.two
          have l_xc_0 : w.heap.size < w9.heap.size := by omega
          go_wp2
          refine bodyPost_ret (v := .slice vA vn vc) (by simp [results, go_sem, Try.results50]) rfl ⟨_, _, _, rfl, ?_, ?_⟩
          · rw [outL_yes HO2.out, cL1l.out, ← hkn]; exact OwnL.mono ro (by omega) (by first | omega | (simp [size_drew]; done) | (simp [size_drew]; omega)) (Nat.le_refl _)
          · repeat (with_reducible (first | assumption | exact Below.refl _ _ | refine Below.alloc ?_ (by first | omega | (simp; done) | (simp; omega)) _ | refine Below.setCell ?_ (by first | omega | (simp; done) | (simp; omega)) _ | refine Below.drew ?_ | refine below_drewN ?_ _))
end Go.Proofs.Ytodnahpegecpiaa

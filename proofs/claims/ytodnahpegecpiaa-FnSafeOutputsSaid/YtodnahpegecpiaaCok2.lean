/- Contracts of CircuitOk and CountGates. Printed by mac2.py. -/
import Derived.Test.YtodnahpegecpiaaCok
namespace Go.Proofs.Ytodnahpegecpiaa
set_option linter.unusedSimpArgs false
set_option linter.unusedVariables false
open Go.RowKit
set_option maxRecDepth 100000 in
set_option maxHeartbeats 2000000 in
theorem sCircuitOk_L {cA0 : Option Addr} {cn0 cc0 : Nat} {cL0 : List (Int × Int × Int)} {cA1 : Option Addr} {cn1 cc1 : Nat} {cL1 : List Int} {w : World} (cH : RdL w [((.slice cA0 cn0 cc0), .gates cL0), ((.slice cA1 cn1 cc1), .ints cL1)]) (cL0n : cL0.length ≤ 1048576) (cL1n : cL1.length ≤ 1048576) :
    Calls Try.prog 93 #[.agg #[(.slice cA0 cn0 cc0), (.slice cA1 cn1 cc1)]] w fun e w' => e = .returned (.bool (circOk cL0 cL1)) ∧ Below w.heap.size w w' := by
  have cL0g : Gates w cA0 cn0 cL0 := RdG.toG (cH ((.slice cA0 cn0 cc0), .gates cL0) (by simp))
  have cL0l := Lib.hid cL0g.1
  have cL0m : cn0 ≤ 1048576 := by rw [← cL0l.out]; exact cL0n
  have cL1i : Ints w cA1 cn1 cL1 := Rd.toInts (cH ((.slice cA1 cn1 cc1), .ints cL1) (by simp))
  have cL1l := Lib.hid cL1i.len
  have cL1m : cn1 ≤ 1048576 := by rw [← cL1l.out]; exact cL1n
  have HE := Lib.hid (show circOk cL0 cL1 = (decide (cn0 ≤ 6000) && gatesTo cL0 cn0 && outsOk cn0 cL1) by rw [circOk, cL0l.out])
  have HG := Lib.hid cL0g
  have HO := Lib.hid cL1i
  go_enter Try.func93, Try.ntmps93
  go_wp2_with fail
  generalize hw1 : World.alloc _ _ = w1
  have z1 : w.heap.size + 1 ≤ w1.heap.size := by rw [← hw1]; simp
  have B1 : Below w.heap.size w w1 := by rw [← hw1]; repeat (with_reducible (first | assumption | exact Below.refl _ _ | refine Below.alloc ?_ (by first | omega | (simp; done) | (simp; omega)) _ | refine Below.setCell ?_ (by first | omega | (simp; done) | (simp; omega)) _ | refine Below.drew ?_ | refine below_drewN ?_ _))
  have xc_ : Box w1 (w.heap.size) #[(.slice cA0 cn0 cc0), (.slice cA1 cn1 cc1)] 27 := (by rw [← hw1]; exact (Box.new (g := w.heap.size) _ #[(.slice cA0 cn0 cc0), (.slice cA1 cn1 cc1)] 27 (by simp)))
  have xc := xc_; clear xc_
  clear hw1
  go_loopw [3] (fun i wr => ∃ k : Nat, k ≤ cn0 ∧ i = .int .i64 k ∧ Hid (gatesTo cL0 k = true) ∧ Hid (Box wr w.heap.size #[.slice cA0 cn0 cc0, .slice cA1 cn1 cc1] 27) ∧ Below w.heap.size w wr) (fun i wr => cn0 - (intOf i).toNat)
  case atStart => exact ⟨0, by omega, rfl, rfl, xc, B1⟩
  case round =>
    obtain ⟨k, hk, rfl, hT, xc, B9⟩ := hrel
    obtain ⟨w9, hw9⟩ : ∃ x, x = wr := ⟨wr, rfl⟩
    subst hw9
    have xc := xc.out
    have z9 := B9.size
    have zx := xc.lt
    by_cases hlt : k < cn0
    · obtain ⟨g, o, rfl, hg, d0, d1, d2⟩ := (HG.out).at hlt
      have hgt := Lib.hid (show gAt cL0 k = ((gAt cL0 k).1, (gAt cL0 k).2.1, (gAt cL0 k).2.2) from rfl)
      change _ = some (Value.int .i64 (gAt cL0 k).1) at d0
      change _ = some (Value.int .i64 (gAt cL0 k).2.1) at d1
      change _ = some (Value.int .i64 (gAt cL0 k).2.2) at d2
      have e0 := (Below.cell (w := w) (w' := w9) (by repeat (with_reducible (first | assumption | exact Below.refl _ _ | refine Below.alloc ?_ (by first | omega | (simp; done) | (simp; omega)) _ | refine Below.setCell ?_ (by first | omega | (simp; done) | (simp; omega)) _ | refine Below.drew ?_ | refine below_drewN ?_ _))) hg).trans d0
      have e1 := (Below.cell (w := w) (w' := w9) (by repeat (with_reducible (first | assumption | exact Below.refl _ _ | refine Below.alloc ?_ (by first | omega | (simp; done) | (simp; omega)) _ | refine Below.setCell ?_ (by first | omega | (simp; done) | (simp; omega)) _ | refine Below.drew ?_ | refine below_drewN ?_ _))) hg).trans d1
      have e2 := (Below.cell (w := w) (w' := w9) (by repeat (with_reducible (first | assumption | exact Below.refl _ _ | refine Below.alloc ?_ (by first | omega | (simp; done) | (simp; omega)) _ | refine Below.setCell ?_ (by first | omega | (simp; done) | (simp; omega)) _ | refine Below.drew ?_ | refine below_drewN ?_ _))) hg).trans d2
      cases hq0 : gateOk (gAt cL0 k).1 (gAt cL0 k).2.1 (gAt cL0 k).2.2 (k : Int) with
      | false =>
        have hq : gateOk (gAt cL0 k).1 (gAt cL0 k).2.1 (gAt cL0 k).2.2 (k : Int) = false := hq0
        obtain ⟨cxc_0, cxc_1, fxc_0, fxc_1⟩ := xc.two
        have l_xc_0 : w.heap.size < w9.heap.size := by omega
        go_wp2_with fail
        refine (sGateOk_L _ _ _ _).mono ?_
        rintro e w10 ⟨rfl, b10⟩
        rw [hq]
        have B10 : Below w.heap.size w w10 := Below.t b10
        have xc_ : Box w10 (w.heap.size) #[.slice (some ⟨g, o, none⟩) cn0 cc0, (.slice cA1 cn1 cc1)] 27 := xc.below b10 (by first | omega | (simp [size_drew]; done) | (simp [size_drew]; omega))
        clear xc; have xc := xc_; clear xc_
        go_wp2
        go_ret
        exact ⟨ret_bool (by rw [HE.out, gatesTo_no (n := cn0) hq hlt]; simp), B10⟩
      | true =>
        have hq : gateOk (gAt cL0 k).1 (gAt cL0 k).2.1 (gAt cL0 k).2.2 (k : Int) = true := hq0
        obtain ⟨cxc_0, cxc_1, fxc_0, fxc_1⟩ := xc.two
        have l_xc_0 : w.heap.size < w9.heap.size := by omega
        go_wp2_with fail
        refine (sGateOk_L _ _ _ _).mono ?_
        rintro e w10 ⟨rfl, b10⟩
        rw [hq]
        have B10 : Below w.heap.size w w10 := Below.t b10
        have xc_ : Box w10 (w.heap.size) #[.slice (some ⟨g, o, none⟩) cn0 cc0, (.slice cA1 cn1 cc1)] 27 := xc.below b10 (by first | omega | (simp [size_drew]; done) | (simp [size_drew]; omega))
        clear xc; have xc := xc_; clear xc_
        go_wp2
        go_roundw
        case rel => exact ⟨k + 1, by omega, by go_num, gatesTo_yes hT.out hq, xc, B10⟩
        case measure => simp [intOf]; omega
    · have hkn : k = cn0 := by omega
      have hT2 := Lib.hid (show gatesTo cL0 cn0 = true by rw [← hkn]; exact hT.out)
      clear hT hlt hk
      subst hkn
      obtain ⟨cxc_0, cxc_1, fxc_0, fxc_1⟩ := xc.two
      have l_xc_0 : w.heap.size < w9.heap.size := by omega
      go_wp2_with fail
      clear cxc_0 cxc_1 fxc_0 fxc_1 l_xc_0
      go_loopw [4] (fun i wr => ∃ j : Nat, j ≤ cn1 ∧ i = .int .i64 j ∧ Hid ((cL1.take j).all (fun x => inB x 0 ((k : Int) - 1)) = true) ∧ Hid (Box wr w.heap.size #[.slice cA0 k cc0, .slice cA1 cn1 cc1] 27) ∧ Below w.heap.size w wr) (fun i wr => cn1 - (intOf i).toNat)
      case atStart => exact ⟨0, by omega, rfl, rfl, xc, B9⟩
      case round =>
        obtain ⟨j, hj, rfl, hT, xc, B8⟩ := hrel
        obtain ⟨w8, hw8⟩ : ∃ x, x = wr := ⟨wr, rfl⟩
        subst hw8
        have xc := xc.out
        have z8 := B8.size
        have zx8 := xc.lt
        by_cases hlt : j < cn1
        · obtain ⟨g, o, rfl, hg, hc⟩ := HO.out.block (by omega)
          have hcj := hc j hlt
          clear hc
          have hw1 : IntKind.i64.wrap ((k : Int) - 1) = (k : Int) - 1 := by (rw [IntKind.wrap_i64]; (first | omega | (unfold wrap64; omega)))
          have h8 : w8.cell? ⟨g, o + j, none⟩ = some (.int .i64 (nth cL1 j)) := (Below.cell (w := w) (by repeat (with_reducible (first | assumption | exact Below.refl _ _ | refine Below.alloc ?_ (by first | omega | (simp; done) | (simp; omega)) _ | refine Below.setCell ?_ (by first | omega | (simp; done) | (simp; omega)) _ | refine Below.drew ?_ | refine below_drewN ?_ _))) hg).trans hcj
          cases hq : inB (nth cL1 j) 0 ((k : Int) - 1) with
          | false =>
            obtain ⟨cxc_0, cxc_1, fxc_0, fxc_1⟩ := xc.two
            have l_xc_0 : w.heap.size < w8.heap.size := by omega
            go_wp2_with fail
            clear cxc_0 cxc_1 fxc_0 fxc_1 l_xc_0
            refine wp_region_held_drew (S := fun W => W.cell? ⟨w.heap.size, 0, none⟩ = some (.slice cA0 k cc0) ∧ W.cell? ⟨w.heap.size, 1, none⟩ = some (.slice (some ⟨g, o, none⟩) cn1 cc1) ∧ W.cell? ⟨g, o + j, none⟩ = some (.int .i64 (nth cL1 j))) (by kernel_rfl) ⟨xc.drew.two.1, xc.drew.two.2.1, ((Below.cell (w := w) (by repeat (with_reducible (first | assumption | exact Below.refl _ _ | refine Below.alloc ?_ (by first | omega | (simp; done) | (simp; omega)) _ | refine Below.setCell ?_ (by first | omega | (simp; done) | (simp; omega)) _ | refine Below.drew ?_ | refine below_drewN ?_ _))) hg).trans hcj)⟩ (fun hS => ?_)
            (refine tk 0 hS ?_; (try simp only [Act.put, layA, layB, layC]))
            (refine tk 1 hS ?_; (try simp only [Act.put, layA, layB, layC]))
            (refine tk 2 hS ?_; (try simp only [Act.put, layA, layB, layC]))
            (refine tk 3 hS ?_; (try simp only [Act.put, layA, layB, layC]))
            (refine tk 4 hS ?_; (try simp only [Act.put, layA, layB, layC]))
            (refine tk 5 hS ?_; (try simp only [Act.put, layA, layB, layC]))
            (refine tk 6 hS ?_; (try simp only [Act.put, layA, layB, layC]))
            (refine tk 7 hS ?_; (try simp only [Act.put, layA, layB, layC]))
            (refine tk 8 hS ?_; (try simp only [Act.put, layA, layB, layC]))
            refine on 9 ?_
            refine callH (by go_simp; (first | done | with_reducible rfl | exact ⟨rfl, rfl⟩)) ?_
            go_at_call 96
            refine (l01In_any _ _ _ _).mono ?_
            rintro e w_ ⟨rfl, rfl⟩
            refine ⟨.bool false, by rw [hq], hS, fun hS => ?_⟩
            (try simp only [Act.put, layA, layB, layC])
            (refine tk 10 hS ?_; (try simp only [Act.put, layA, layB, layC]))
            clear hS
            refine wpAnyH_done (by kernel_rfl) ?_ _
            go_wp2
            go_ret
            exact ⟨ret_bool (by rw [HE.out, show outsOk k cL1 = false from all_not (by rw [cL1l.out]; exact hlt) hq]; simp), by repeat (with_reducible (first | assumption | exact Below.refl _ _ | refine Below.alloc ?_ (by first | omega | (simp; done) | (simp; omega)) _ | refine Below.setCell ?_ (by first | omega | (simp; done) | (simp; omega)) _ | refine Below.drew ?_ | refine below_drewN ?_ _))⟩
          | true =>
            obtain ⟨cxc_0, cxc_1, fxc_0, fxc_1⟩ := xc.two
            have l_xc_0 : w.heap.size < w8.heap.size := by omega
            go_wp2_with fail
            clear cxc_0 cxc_1 fxc_0 fxc_1 l_xc_0
            refine wp_region_held_drew (S := fun W => W.cell? ⟨w.heap.size, 0, none⟩ = some (.slice cA0 k cc0) ∧ W.cell? ⟨w.heap.size, 1, none⟩ = some (.slice (some ⟨g, o, none⟩) cn1 cc1) ∧ W.cell? ⟨g, o + j, none⟩ = some (.int .i64 (nth cL1 j))) (by kernel_rfl) ⟨xc.drew.two.1, xc.drew.two.2.1, ((Below.cell (w := w) (by repeat (with_reducible (first | assumption | exact Below.refl _ _ | refine Below.alloc ?_ (by first | omega | (simp; done) | (simp; omega)) _ | refine Below.setCell ?_ (by first | omega | (simp; done) | (simp; omega)) _ | refine Below.drew ?_ | refine below_drewN ?_ _))) hg).trans hcj)⟩ (fun hS => ?_)
            (refine tk 0 hS ?_; (try simp only [Act.put, layA, layB, layC]))
            (refine tk 1 hS ?_; (try simp only [Act.put, layA, layB, layC]))
            (refine tk 2 hS ?_; (try simp only [Act.put, layA, layB, layC]))
            (refine tk 3 hS ?_; (try simp only [Act.put, layA, layB, layC]))
            (refine tk 4 hS ?_; (try simp only [Act.put, layA, layB, layC]))
            (refine tk 5 hS ?_; (try simp only [Act.put, layA, layB, layC]))
            (refine tk 6 hS ?_; (try simp only [Act.put, layA, layB, layC]))
            (refine tk 7 hS ?_; (try simp only [Act.put, layA, layB, layC]))
            (refine tk 8 hS ?_; (try simp only [Act.put, layA, layB, layC]))
            refine on 9 ?_
            refine callH (by go_simp; (first | done | with_reducible rfl | exact ⟨rfl, rfl⟩)) ?_
            go_at_call 96
            refine (l01In_any _ _ _ _).mono ?_
            rintro e w_ ⟨rfl, rfl⟩
            refine ⟨.bool true, by rw [hq], hS, fun hS => ?_⟩
            (try simp only [Act.put, layA, layB, layC])
            (refine tk 10 hS ?_; (try simp only [Act.put, layA, layB, layC]))
            clear hS
            refine wpAnyH_done (by kernel_rfl) ?_ _
            go_wp2
            go_roundw
            case rel => exact ⟨j + 1, by omega, by go_num, all_snoc (by rw [cL1l.out]; exact hlt) hT.out hq, by first | exact xc | exact xc.drew, by repeat (with_reducible (first | assumption | exact Below.refl _ _ | refine Below.alloc ?_ (by first | omega | (simp; done) | (simp; omega)) _ | refine Below.setCell ?_ (by first | omega | (simp; done) | (simp; omega)) _ | refine Below.drew ?_ | refine below_drewN ?_ _))⟩
            case measure => simp [intOf]; omega
        · have hO : outsOk k cL1 = true := all_done (by rw [cL1l.out]; omega) hT.out
          obtain ⟨cxc_0, cxc_1, fxc_0, fxc_1⟩ := xc.two
          have l_xc_0 : w.heap.size < w8.heap.size := by omega
          go_wp2
          all_goals (go_ret; exact ⟨ret_bool (by rw [HE.out, hT2.out, hO]; first | rfl | (simp; omega) | (simp_all; done) | (simp; done)), by repeat (with_reducible (first | assumption | exact Below.refl _ _ | refine Below.alloc ?_ (by first | omega | (simp; done) | (simp; omega)) _ | refine Below.setCell ?_ (by first | omega | (simp; done) | (simp; omega)) _ | refine Below.drew ?_ | refine below_drewN ?_ _))⟩)
set_option maxRecDepth 100000 in
set_option maxHeartbeats 2000000 in
theorem iCircuitOk_L {cA0 : Option Addr} {cn0 cc0 : Nat} {cL0 : List (Int × Int × Int)} {cA1 : Option Addr} {cn1 cc1 : Nat} {cL1 : List Int} {w : World} (cH : RdL w [((.slice cA0 cn0 cc0), .gates cL0), ((.slice cA1 cn1 cc1), .ints cL1)]) (cL0n : cL0.length ≤ 1048576) (cL1n : cL1.length ≤ 1048576) :
    Calls Try.prog 86 #[.agg #[(.slice cA0 cn0 cc0), (.slice cA1 cn1 cc1)]] w fun e w' => e = .returned (.bool (circOk cL0 cL1)) ∧ Below w.heap.size w w' := by
  have cL0g : Gates w cA0 cn0 cL0 := RdG.toG (cH ((.slice cA0 cn0 cc0), .gates cL0) (by simp))
  have cL0l := Lib.hid cL0g.1
  have cL0m : cn0 ≤ 1048576 := by rw [← cL0l.out]; exact cL0n
  have cL1i : Ints w cA1 cn1 cL1 := Rd.toInts (cH ((.slice cA1 cn1 cc1), .ints cL1) (by simp))
  have cL1l := Lib.hid cL1i.len
  have cL1m : cn1 ≤ 1048576 := by rw [← cL1l.out]; exact cL1n
  have HE := Lib.hid (show circOk cL0 cL1 = (decide (cn0 ≤ 6000) && gatesTo cL0 cn0 && outsOk cn0 cL1) by rw [circOk, cL0l.out])
  have HG := Lib.hid cL0g
  have HO := Lib.hid cL1i
  cases k0 : decide (cn0 ≤ 6000) with
  | false =>
    have q0 : ((6000 : Int) < cn0) := by simp at k0; omega
    go_enter Try.func86, Try.ntmps86
    go_wp2
    go_ret
    exact ⟨ret_bool (by rw [HE.out, k0]; rfl), by repeat (with_reducible (first | assumption | exact Below.refl _ _ | refine Below.alloc ?_ (by first | omega | (simp; done) | (simp; omega)) _ | refine Below.setCell ?_ (by first | omega | (simp; done) | (simp; omega)) _ | refine Below.drew ?_ | refine below_drewN ?_ _))⟩
  | true =>
    have q0 : ¬ ((6000 : Int) < cn0) := by simp at k0; omega
    go_enter Try.func86, Try.ntmps86
    go_wp2_with fail
    generalize hw1 : World.alloc _ _ = w1
    have z1 : w.heap.size + 1 ≤ w1.heap.size := by rw [← hw1]; simp
    have B1 : Below w.heap.size w w1 := by rw [← hw1]; repeat (with_reducible (first | assumption | exact Below.refl _ _ | refine Below.alloc ?_ (by first | omega | (simp; done) | (simp; omega)) _ | refine Below.setCell ?_ (by first | omega | (simp; done) | (simp; omega)) _ | refine Below.drew ?_ | refine below_drewN ?_ _))
    have xc_ : Box w1 (w.heap.size) #[(.slice cA0 cn0 cc0), (.slice cA1 cn1 cc1)] 27 := (by rw [← hw1]; exact (Box.new (g := w.heap.size) _ #[(.slice cA0 cn0 cc0), (.slice cA1 cn1 cc1)] 27 (by simp)))
    have xc := xc_; clear xc_
    clear hw1
    go_loopw [14] (fun i wr => ∃ k : Nat, k ≤ cn0 ∧ i = .int .i64 k ∧ Hid (gatesTo cL0 k = true) ∧ Hid (Box wr w.heap.size #[.slice cA0 cn0 cc0, .slice cA1 cn1 cc1] 27) ∧ Below w.heap.size w wr) (fun i wr => cn0 - (intOf i).toNat)
    case atStart => exact ⟨0, by omega, rfl, rfl, xc, B1⟩
    case round =>
      obtain ⟨k, hk, rfl, hT, xc, B9⟩ := hrel
      obtain ⟨w9, hw9⟩ : ∃ x, x = wr := ⟨wr, rfl⟩
      subst hw9
      have xc := xc.out
      have z9 := B9.size
      have zx := xc.lt
      by_cases hlt : k < cn0
      · obtain ⟨g, o, rfl, hg, d0, d1, d2⟩ := (HG.out).at hlt
        have hgt := Lib.hid (show gAt cL0 k = ((gAt cL0 k).1, (gAt cL0 k).2.1, (gAt cL0 k).2.2) from rfl)
        change _ = some (Value.int .i64 (gAt cL0 k).1) at d0
        change _ = some (Value.int .i64 (gAt cL0 k).2.1) at d1
        change _ = some (Value.int .i64 (gAt cL0 k).2.2) at d2
        have e0 := (Below.cell (w := w) (w' := w9) (by repeat (with_reducible (first | assumption | exact Below.refl _ _ | refine Below.alloc ?_ (by first | omega | (simp; done) | (simp; omega)) _ | refine Below.setCell ?_ (by first | omega | (simp; done) | (simp; omega)) _ | refine Below.drew ?_ | refine below_drewN ?_ _))) hg).trans d0
        have e1 := (Below.cell (w := w) (w' := w9) (by repeat (with_reducible (first | assumption | exact Below.refl _ _ | refine Below.alloc ?_ (by first | omega | (simp; done) | (simp; omega)) _ | refine Below.setCell ?_ (by first | omega | (simp; done) | (simp; omega)) _ | refine Below.drew ?_ | refine below_drewN ?_ _))) hg).trans d1
        have e2 := (Below.cell (w := w) (w' := w9) (by repeat (with_reducible (first | assumption | exact Below.refl _ _ | refine Below.alloc ?_ (by first | omega | (simp; done) | (simp; omega)) _ | refine Below.setCell ?_ (by first | omega | (simp; done) | (simp; omega)) _ | refine Below.drew ?_ | refine below_drewN ?_ _))) hg).trans d2
        cases hq0 : gateOk (gAt cL0 k).1 (gAt cL0 k).2.1 (gAt cL0 k).2.2 (k : Int) with
        | false =>
          have hq : gateOk (gAt cL0 k).1 (gAt cL0 k).2.1 (gAt cL0 k).2.2 (k : Int) = false := hq0
          obtain ⟨cxc_0, cxc_1, fxc_0, fxc_1⟩ := xc.two
          have l_xc_0 : w.heap.size < w9.heap.size := by omega
          go_wp2_with fail
          refine (iGateOk_L _ _ _ _).mono ?_
          rintro e w10 ⟨rfl, b10⟩
          rw [hq]
          have B10 : Below w.heap.size w w10 := Below.t b10
          have xc_ : Box w10 (w.heap.size) #[.slice (some ⟨g, o, none⟩) cn0 cc0, (.slice cA1 cn1 cc1)] 27 := (xc.alloc _).below b10 (by first | omega | (simp [size_drew]; done) | (simp [size_drew]; omega))
          clear xc; have xc := xc_; clear xc_
          have xg_ : Box w10 (w9.heap.size) #[.int .i64 (gAt cL0 k).1, .int .i64 (gAt cL0 k).2.1, .int .i64 (gAt cL0 k).2.2] 74 := (Box.new (g := w9.heap.size) _ #[.int .i64 (gAt cL0 k).1, .int .i64 (gAt cL0 k).2.1, .int .i64 (gAt cL0 k).2.2] 74 (by simp)).below b10 (by first | omega | (simp [size_drew]; done) | (simp [size_drew]; omega))
          have xg := xg_; clear xg_
          go_wp2
          go_ret
          exact ⟨ret_bool (by rw [HE.out, gatesTo_no (n := cn0) hq hlt]; simp), B10⟩
        | true =>
          have hq : gateOk (gAt cL0 k).1 (gAt cL0 k).2.1 (gAt cL0 k).2.2 (k : Int) = true := hq0
          obtain ⟨cxc_0, cxc_1, fxc_0, fxc_1⟩ := xc.two
          have l_xc_0 : w.heap.size < w9.heap.size := by omega
          go_wp2_with fail
          refine (iGateOk_L _ _ _ _).mono ?_
          rintro e w10 ⟨rfl, b10⟩
          rw [hq]
          have B10 : Below w.heap.size w w10 := Below.t b10
          have xc_ : Box w10 (w.heap.size) #[.slice (some ⟨g, o, none⟩) cn0 cc0, (.slice cA1 cn1 cc1)] 27 := (xc.alloc _).below b10 (by first | omega | (simp [size_drew]; done) | (simp [size_drew]; omega))
          clear xc; have xc := xc_; clear xc_
          have xg_ : Box w10 (w9.heap.size) #[.int .i64 (gAt cL0 k).1, .int .i64 (gAt cL0 k).2.1, .int .i64 (gAt cL0 k).2.2] 74 := (Box.new (g := w9.heap.size) _ #[.int .i64 (gAt cL0 k).1, .int .i64 (gAt cL0 k).2.1, .int .i64 (gAt cL0 k).2.2] 74 (by simp)).below b10 (by first | omega | (simp [size_drew]; done) | (simp [size_drew]; omega))
          have xg := xg_; clear xg_
          go_wp2
          go_roundw
          case rel => exact ⟨k + 1, by omega, by go_num, gatesTo_yes hT.out hq, xc, B10⟩
          case measure => simp [intOf]; omega
      · have hkn : k = cn0 := by omega
        have hT2 := Lib.hid (show gatesTo cL0 cn0 = true by rw [← hkn]; exact hT.out)
        clear hT hlt hk
        subst hkn
        obtain ⟨cxc_0, cxc_1, fxc_0, fxc_1⟩ := xc.two
        have l_xc_0 : w.heap.size < w9.heap.size := by omega
        go_wp2_with fail
        clear cxc_0 cxc_1 fxc_0 fxc_1 l_xc_0
        go_loopw [27] (fun i wr => ∃ j : Nat, j ≤ cn1 ∧ i = .int .i64 j ∧ Hid ((cL1.take j).all (fun x => inB x 0 ((k : Int) - 1)) = true) ∧ Hid (Box wr w.heap.size #[.slice cA0 k cc0, .slice cA1 cn1 cc1] 27) ∧ Below w.heap.size w wr) (fun i wr => cn1 - (intOf i).toNat)
        case atStart => exact ⟨0, by omega, rfl, rfl, xc, B9⟩
        case round =>
          obtain ⟨j, hj, rfl, hT, xc, B8⟩ := hrel
          obtain ⟨w8, hw8⟩ : ∃ x, x = wr := ⟨wr, rfl⟩
          subst hw8
          have xc := xc.out
          have z8 := B8.size
          have zx8 := xc.lt
          by_cases hlt : j < cn1
          · obtain ⟨g, o, rfl, hg, hc⟩ := HO.out.block (by omega)
            have hcj := hc j hlt
            clear hc
            have hw1 : IntKind.i64.wrap ((k : Int) - 1) = (k : Int) - 1 := by (rw [IntKind.wrap_i64]; (first | omega | (unfold wrap64; omega)))
            have h8 : w8.cell? ⟨g, o + j, none⟩ = some (.int .i64 (nth cL1 j)) := (Below.cell (w := w) (by repeat (with_reducible (first | assumption | exact Below.refl _ _ | refine Below.alloc ?_ (by first | omega | (simp; done) | (simp; omega)) _ | refine Below.setCell ?_ (by first | omega | (simp; done) | (simp; omega)) _ | refine Below.drew ?_ | refine below_drewN ?_ _))) hg).trans hcj
            cases hq : inB (nth cL1 j) 0 ((k : Int) - 1) with
            | false =>
              obtain ⟨cxc_0, cxc_1, fxc_0, fxc_1⟩ := xc.two
              have l_xc_0 : w.heap.size < w8.heap.size := by omega
              go_wp2_with fail
              refine (within_any _ _ _ _).mono ?_
              rintro e w_ ⟨rfl, rfl⟩
              rw [hq]
              go_wp2
              go_ret
              exact ⟨ret_bool (by rw [HE.out, show outsOk k cL1 = false from all_not (by rw [cL1l.out]; exact hlt) hq]; simp), by repeat (with_reducible (first | assumption | exact Below.refl _ _ | refine Below.alloc ?_ (by first | omega | (simp; done) | (simp; omega)) _ | refine Below.setCell ?_ (by first | omega | (simp; done) | (simp; omega)) _ | refine Below.drew ?_ | refine below_drewN ?_ _))⟩
            | true =>
              obtain ⟨cxc_0, cxc_1, fxc_0, fxc_1⟩ := xc.two
              have l_xc_0 : w.heap.size < w8.heap.size := by omega
              go_wp2_with fail
              refine (within_any _ _ _ _).mono ?_
              rintro e w_ ⟨rfl, rfl⟩
              rw [hq]
              go_wp2
              go_roundw
              case rel => exact ⟨j + 1, by omega, by go_num, all_snoc (by rw [cL1l.out]; exact hlt) hT.out hq, by first | exact xc | exact xc.drew, by repeat (with_reducible (first | assumption | exact Below.refl _ _ | refine Below.alloc ?_ (by first | omega | (simp; done) | (simp; omega)) _ | refine Below.setCell ?_ (by first | omega | (simp; done) | (simp; omega)) _ | refine Below.drew ?_ | refine below_drewN ?_ _))⟩
              case measure => simp [intOf]; omega
          · have hO : outsOk k cL1 = true := all_done (by rw [cL1l.out]; omega) hT.out
            obtain ⟨cxc_0, cxc_1, fxc_0, fxc_1⟩ := xc.two
            have l_xc_0 : w.heap.size < w8.heap.size := by omega
            go_wp2
            go_ret
            exact ⟨ret_bool (by rw [HE.out, hT2.out, hO, k0]; rfl), by repeat (with_reducible (first | assumption | exact Below.refl _ _ | refine Below.alloc ?_ (by first | omega | (simp; done) | (simp; omega)) _ | refine Below.setCell ?_ (by first | omega | (simp; done) | (simp; omega)) _ | refine Below.drew ?_ | refine below_drewN ?_ _))⟩
set_option maxRecDepth 100000 in
set_option maxHeartbeats 2000000 in
theorem sCountGates_L {cA0 : Option Addr} {cn0 cc0 : Nat} {cL0 : List (Int × Int × Int)} {cA1 : Option Addr} {cn1 cc1 : Nat} {cL1 : List Int} {w : World} (cH : RdL w [((.slice cA0 cn0 cc0), .gates cL0), ((.slice cA1 cn1 cc1), .ints cL1)]) (cL0n : cL0.length ≤ 1048576) (cL1n : cL1.length ≤ 1048576) (qI0 : Int) :
    Calls Try.prog 67 #[.agg #[(.slice cA0 cn0 cc0), (.slice cA1 cn1 cc1)], .int .i64 qI0] w fun e w' => e = .returned (.int .i64 (countG cL0 qI0 : Nat)) ∧ Below w.heap.size w w' := by
  have cL0g : Gates w cA0 cn0 cL0 := RdG.toG (cH ((.slice cA0 cn0 cc0), .gates cL0) (by simp))
  have cL0l := Lib.hid cL0g.1
  have cL0m : cn0 ≤ 1048576 := by rw [← cL0l.out]; exact cL0n
  have cL1i : Ints w cA1 cn1 cL1 := Rd.toInts (cH ((.slice cA1 cn1 cc1), .ints cL1) (by simp))
  have cL1l := Lib.hid cL1i.len
  have cL1m : cn1 ≤ 1048576 := by rw [← cL1l.out]; exact cL1n
  have HG := Lib.hid cL0g
  have HC := Lib.hid (show countG cL0 qI0 = cntG cL0 qI0 cn0 by rw [countG, cL0l.out])
  go_enter Try.func67, Try.ntmps67
  go_wp2_with fail
  generalize hw1 : World.alloc _ _ = w1
  have z1 : w.heap.size + 1 ≤ w1.heap.size := by rw [← hw1]; simp
  have B1 : Below w.heap.size w w1 := by rw [← hw1]; repeat (with_reducible (first | assumption | exact Below.refl _ _ | refine Below.alloc ?_ (by first | omega | (simp; done) | (simp; omega)) _ | refine Below.setCell ?_ (by first | omega | (simp; done) | (simp; omega)) _ | refine Below.drew ?_ | refine below_drewN ?_ _))
  have xc_ : Box w1 (w.heap.size) #[(.slice cA0 cn0 cc0), (.slice cA1 cn1 cc1)] 27 := (by rw [← hw1]; exact (Box.new (g := w.heap.size) _ #[(.slice cA0 cn0 cc0), (.slice cA1 cn1 cc1)] 27 (by simp)))
  have xc := xc_; clear xc_
  clear hw1
  go_loopw [5, 6] (fun v i wr => ∃ k : Nat, k ≤ cn0 ∧ i = .int .i64 k ∧ v = .int .i64 (cntG cL0 qI0 k : Nat) ∧ Hid (Box wr w.heap.size #[.slice cA0 cn0 cc0, .slice cA1 cn1 cc1] 27) ∧ Below w.heap.size w wr) (fun v i wr => cn0 - (intOf i).toNat)
  case atStart => exact ⟨0, by omega, rfl, rfl, xc, B1⟩
  case round =>
    obtain ⟨k, hk, rfl, rfl, xc, B9⟩ := hrel
    obtain ⟨w9, hw9⟩ : ∃ x, x = wr := ⟨wr, rfl⟩
    subst hw9
    have xc := xc.out
    have z9 := B9.size
    have zx := xc.lt
    have hle := cntG_le cL0 qI0 k
    by_cases hlt : k < cn0
    · obtain ⟨g, o, rfl, hg, d0, d1, d2⟩ := (HG.out).at hlt
      have hgt := Lib.hid (show gAt cL0 k = ((gAt cL0 k).1, (gAt cL0 k).2.1, (gAt cL0 k).2.2) from rfl)
      change _ = some (Value.int .i64 (gAt cL0 k).1) at d0
      change _ = some (Value.int .i64 (gAt cL0 k).2.1) at d1
      change _ = some (Value.int .i64 (gAt cL0 k).2.2) at d2
      have e0 := (Below.cell (w := w) (w' := w9) (by repeat (with_reducible (first | assumption | exact Below.refl _ _ | refine Below.alloc ?_ (by first | omega | (simp; done) | (simp; omega)) _ | refine Below.setCell ?_ (by first | omega | (simp; done) | (simp; omega)) _ | refine Below.drew ?_ | refine below_drewN ?_ _))) hg).trans d0
      have e1 := (Below.cell (w := w) (w' := w9) (by repeat (with_reducible (first | assumption | exact Below.refl _ _ | refine Below.alloc ?_ (by first | omega | (simp; done) | (simp; omega)) _ | refine Below.setCell ?_ (by first | omega | (simp; done) | (simp; omega)) _ | refine Below.drew ?_ | refine below_drewN ?_ _))) hg).trans d1
      have e2 := (Below.cell (w := w) (w' := w9) (by repeat (with_reducible (first | assumption | exact Below.refl _ _ | refine Below.alloc ?_ (by first | omega | (simp; done) | (simp; omega)) _ | refine Below.setCell ?_ (by first | omega | (simp; done) | (simp; omega)) _ | refine Below.drew ?_ | refine below_drewN ?_ _))) hg).trans d2
      by_cases hq : (gAt cL0 k).1 = qI0
      · have hu := Lib.hid (cntG_yes hq)
        have hq2 : ((gAt cL0 k).1 == qI0) = true := by simpa using hq
        obtain ⟨cxc_0, cxc_1, fxc_0, fxc_1⟩ := xc.two
        have l_xc_0 : w.heap.size < w9.heap.size := by omega
        go_wp2
        go_roundw
        case rel => exact ⟨k + 1, by omega, by go_num, by rw [hu.out]; go_num, by first | exact xc | exact xc.alloc _, by repeat (with_reducible (first | assumption | exact Below.refl _ _ | refine Below.alloc ?_ (by first | omega | (simp; done) | (simp; omega)) _ | refine Below.setCell ?_ (by first | omega | (simp; done) | (simp; omega)) _ | refine Below.drew ?_ | refine below_drewN ?_ _))⟩
        case measure => simp [intOf]; omega
      · have hu := Lib.hid (cntG_no hq)
        have hq2 : ((gAt cL0 k).1 == qI0) = false := by simpa using hq
        obtain ⟨cxc_0, cxc_1, fxc_0, fxc_1⟩ := xc.two
        have l_xc_0 : w.heap.size < w9.heap.size := by omega
        go_wp2
        go_roundw
        case rel => exact ⟨k + 1, by omega, by go_num, by rw [hu.out], by first | exact xc | exact xc.alloc _, by repeat (with_reducible (first | assumption | exact Below.refl _ _ | refine Below.alloc ?_ (by first | omega | (simp; done) | (simp; omega)) _ | refine Below.setCell ?_ (by first | omega | (simp; done) | (simp; omega)) _ | refine Below.drew ?_ | refine below_drewN ?_ _))⟩
        case measure => simp [intOf]; omega
    · have hkn : k = cn0 := by omega
      obtain ⟨cxc_0, cxc_1, fxc_0, fxc_1⟩ := xc.two
      have l_xc_0 : w.heap.size < w9.heap.size := by omega
      go_wp2
      go_ret
      exact ⟨ret_int (by rw [HC.out, ← hkn]), by repeat (with_reducible (first | assumption | exact Below.refl _ _ | refine Below.alloc ?_ (by first | omega | (simp; done) | (simp; omega)) _ | refine Below.setCell ?_ (by first | omega | (simp; done) | (simp; omega)) _ | refine Below.drew ?_ | refine below_drewN ?_ _))⟩
set_option maxRecDepth 100000 in
set_option maxHeartbeats 2000000 in
theorem iCountGates_L {cA0 : Option Addr} {cn0 cc0 : Nat} {cL0 : List (Int × Int × Int)} {cA1 : Option Addr} {cn1 cc1 : Nat} {cL1 : List Int} {w : World} (cH : RdL w [((.slice cA0 cn0 cc0), .gates cL0), ((.slice cA1 cn1 cc1), .ints cL1)]) (cL0n : cL0.length ≤ 1048576) (cL1n : cL1.length ≤ 1048576) (qI0 : Int) :
    Calls Try.prog 97 #[.agg #[(.slice cA0 cn0 cc0), (.slice cA1 cn1 cc1)], .int .i64 qI0] w fun e w' => e = .returned (.int .i64 (countG cL0 qI0 : Nat)) ∧ Below w.heap.size w w' := by
  have cL0g : Gates w cA0 cn0 cL0 := RdG.toG (cH ((.slice cA0 cn0 cc0), .gates cL0) (by simp))
  have cL0l := Lib.hid cL0g.1
  have cL0m : cn0 ≤ 1048576 := by rw [← cL0l.out]; exact cL0n
  have cL1i : Ints w cA1 cn1 cL1 := Rd.toInts (cH ((.slice cA1 cn1 cc1), .ints cL1) (by simp))
  have cL1l := Lib.hid cL1i.len
  have cL1m : cn1 ≤ 1048576 := by rw [← cL1l.out]; exact cL1n
  have HG := Lib.hid cL0g
  have HC := Lib.hid (show countG cL0 qI0 = cntG cL0 qI0 cn0 by rw [countG, cL0l.out])
  go_enter Try.func97, Try.ntmps97
  go_wp2_with fail
  generalize hw1 : World.alloc _ _ = w1
  have z1 : w.heap.size + 1 ≤ w1.heap.size := by rw [← hw1]; simp
  have B1 : Below w.heap.size w w1 := by rw [← hw1]; repeat (with_reducible (first | assumption | exact Below.refl _ _ | refine Below.alloc ?_ (by first | omega | (simp; done) | (simp; omega)) _ | refine Below.setCell ?_ (by first | omega | (simp; done) | (simp; omega)) _ | refine Below.drew ?_ | refine below_drewN ?_ _))
  have xc_ : Box w1 (w.heap.size) #[(.slice cA0 cn0 cc0), (.slice cA1 cn1 cc1)] 27 := (by rw [← hw1]; exact (Box.new (g := w.heap.size) _ #[(.slice cA0 cn0 cc0), (.slice cA1 cn1 cc1)] 27 (by simp)))
  have xc := xc_; clear xc_
  clear hw1
  go_loopw [5, 11] (fun v i wr => ∃ k : Nat, k ≤ cn0 ∧ i = .int .i64 k ∧ v = .int .i64 (cntG cL0 qI0 k : Nat) ∧ Hid (Box wr w.heap.size #[.slice cA0 cn0 cc0, .slice cA1 cn1 cc1] 27) ∧ Below w.heap.size w wr) (fun v i wr => cn0 - (intOf i).toNat)
  case atStart => exact ⟨0, by omega, rfl, rfl, xc, B1⟩
  case round =>
    obtain ⟨k, hk, rfl, rfl, xc, B9⟩ := hrel
    obtain ⟨w9, hw9⟩ : ∃ x, x = wr := ⟨wr, rfl⟩
    subst hw9
    have xc := xc.out
    have z9 := B9.size
    have zx := xc.lt
    have hle := cntG_le cL0 qI0 k
    by_cases hlt : k < cn0
    · obtain ⟨g, o, rfl, hg, d0, d1, d2⟩ := (HG.out).at hlt
      have hgt := Lib.hid (show gAt cL0 k = ((gAt cL0 k).1, (gAt cL0 k).2.1, (gAt cL0 k).2.2) from rfl)
      change _ = some (Value.int .i64 (gAt cL0 k).1) at d0
      change _ = some (Value.int .i64 (gAt cL0 k).2.1) at d1
      change _ = some (Value.int .i64 (gAt cL0 k).2.2) at d2
      have e0 := (Below.cell (w := w) (w' := w9) (by repeat (with_reducible (first | assumption | exact Below.refl _ _ | refine Below.alloc ?_ (by first | omega | (simp; done) | (simp; omega)) _ | refine Below.setCell ?_ (by first | omega | (simp; done) | (simp; omega)) _ | refine Below.drew ?_ | refine below_drewN ?_ _))) hg).trans d0
      have e1 := (Below.cell (w := w) (w' := w9) (by repeat (with_reducible (first | assumption | exact Below.refl _ _ | refine Below.alloc ?_ (by first | omega | (simp; done) | (simp; omega)) _ | refine Below.setCell ?_ (by first | omega | (simp; done) | (simp; omega)) _ | refine Below.drew ?_ | refine below_drewN ?_ _))) hg).trans d1
      have e2 := (Below.cell (w := w) (w' := w9) (by repeat (with_reducible (first | assumption | exact Below.refl _ _ | refine Below.alloc ?_ (by first | omega | (simp; done) | (simp; omega)) _ | refine Below.setCell ?_ (by first | omega | (simp; done) | (simp; omega)) _ | refine Below.drew ?_ | refine below_drewN ?_ _))) hg).trans d2
      by_cases hq : (gAt cL0 k).1 = qI0
      · have hu := Lib.hid (cntG_yes hq)
        have hq2 : ((gAt cL0 k).1 == qI0) = true := by simpa using hq
        obtain ⟨cxc_0, cxc_1, fxc_0, fxc_1⟩ := xc.two
        have l_xc_0 : w.heap.size < w9.heap.size := by omega
        go_wp2
        go_roundw
        case rel => exact ⟨k + 1, by omega, by go_num, by rw [hu.out]; go_num, by first | exact xc | exact xc.alloc _, by repeat (with_reducible (first | assumption | exact Below.refl _ _ | refine Below.alloc ?_ (by first | omega | (simp; done) | (simp; omega)) _ | refine Below.setCell ?_ (by first | omega | (simp; done) | (simp; omega)) _ | refine Below.drew ?_ | refine below_drewN ?_ _))⟩
        case measure => simp [intOf]; omega
      · have hu := Lib.hid (cntG_no hq)
        have hq2 : ((gAt cL0 k).1 == qI0) = false := by simpa using hq
        obtain ⟨cxc_0, cxc_1, fxc_0, fxc_1⟩ := xc.two
        have l_xc_0 : w.heap.size < w9.heap.size := by omega
        go_wp2
        go_roundw
        case rel => exact ⟨k + 1, by omega, by go_num, by rw [hu.out], by first | exact xc | exact xc.alloc _, by repeat (with_reducible (first | assumption | exact Below.refl _ _ | refine Below.alloc ?_ (by first | omega | (simp; done) | (simp; omega)) _ | refine Below.setCell ?_ (by first | omega | (simp; done) | (simp; omega)) _ | refine Below.drew ?_ | refine below_drewN ?_ _))⟩
        case measure => simp [intOf]; omega
    · have hkn : k = cn0 := by omega
      obtain ⟨cxc_0, cxc_1, fxc_0, fxc_1⟩ := xc.two
      have l_xc_0 : w.heap.size < w9.heap.size := by omega
      go_wp2
      go_ret
      exact ⟨ret_int (by rw [HC.out, ← hkn]), by repeat (with_reducible (first | assumption | exact Below.refl _ _ | refine Below.alloc ?_ (by first | omega | (simp; done) | (simp; omega)) _ | refine Below.setCell ?_ (by first | omega | (simp; done) | (simp; omega)) _ | refine Below.drew ?_ | refine below_drewN ?_ _))⟩
end Go.Proofs.Ytodnahpegecpiaa

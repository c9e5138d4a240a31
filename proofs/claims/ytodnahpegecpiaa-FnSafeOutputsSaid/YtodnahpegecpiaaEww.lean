/- Contracts of EvalWires and EvalCircuit (the reference). Printed by mac2.py. -/
import Derived.Test.YtodnahpegecpiaaWir
import Derived.Test.YtodnahpegecpiaaEvg
namespace Go.Proofs.Ytodnahpegecpiaa
set_option linter.unusedSimpArgs false
set_option linter.unusedVariables false
open Go.RowKit
theorem and_bit2 {x y : Int} (hx : x = 0 ∨ x = 1) (hy : y = 0 ∨ y = 1) : bits .and .i64 x y = 0 ∨ bits .and .i64 x y = 1 := by
 rcases hx with rfl | rfl <;> rcases hy with rfl | rfl <;> decide
set_option maxRecDepth 100000 in
set_option maxHeartbeats 2000000 in
theorem sEvalWires_L {cA0 : Option Addr} {cn0 cc0 : Nat} {cL0 : List (Int × Int × Int)} {cA1 : Option Addr} {cn1 cc1 : Nat} {cL1 : List Int} {yA0 : Option Addr} {yn0 yc0 : Nat} {yL0 : List Int} {w : World} (cH : RdL w [((.slice cA0 cn0 cc0), .gates cL0), ((.slice cA1 cn1 cc1), .ints cL1)]) (cL0n : cL0.length ≤ 1048576) (cL1n : cL1.length ≤ 1048576) (yH : RdL w [((.slice yA0 yn0 yc0), .ints yL0)]) (yL0n : yL0.length ≤ 1048576) :
  Calls Try.prog 28 #[.agg #[(.slice cA0 cn0 cc0), (.slice cA1 cn1 cc1)], (.slice yA0 yn0 yc0)] w fun e w' => ∃ rA0 rn0 rc0, e = .returned (.slice rA0 rn0 rc0) ∧ OwnL w' w.heap.size w'.heap.size [(.slice rA0 rn0 rc0, .ints (ewL cL0 cL1 yL0))] ∧ Below w.heap.size w w' := by
 have cL0g : Gates w cA0 cn0 cL0 := RdG.toG (cH ((.slice cA0 cn0 cc0), .gates cL0) (by simp))
 have cL0l := Lib.hid cL0g.1
 have cL0m : cn0 ≤ 1048576 := by rw [← cL0l.out]; exact cL0n
 have cL1i : Ints w cA1 cn1 cL1 := Rd.toInts (cH ((.slice cA1 cn1 cc1), .ints cL1) (by simp))
 have cL1l := Lib.hid cL1i.len
 have cL1m : cn1 ≤ 1048576 := by rw [← cL1l.out]; exact cL1n
 have yL0i : Ints w yA0 yn0 yL0 := Rd.toInts (yH ((.slice yA0 yn0 yc0), .ints yL0) (by simp))
 have yL0l := Lib.hid yL0i.len
 have yL0m : yn0 ≤ 1048576 := by rw [← yL0l.out]; exact yL0n
 cases k1 : circOk cL0 cL1 with
 | false =>
  have HO2 : Hid (ecOk cL0 cL1 yL0 = false) := by show _ = _; rw [ecOk, k1]; rfl
  go_enter Try.func28, Try.ntmps28
  go_wp2_with fail
  refine (sCircuitOk_L (RdL.b cH) cL0n cL1n).mono ?_
  rintro e w1 ⟨rfl, b1⟩
  have z1 := b1.size
  try simp only [World.size_alloc, World.size_setCell, size_drew] at z1
  have B1 : Below w.heap.size w w1 := Below.t b1
  have xc_ : Box w1 (w.heap.size) #[(.slice cA0 cn0 cc0), (.slice cA1 cn1 cc1)] 27 := ((Box.new (g := w.heap.size) _ #[(.slice cA0 cn0 cc0), (.slice cA1 cn1 cc1)] 27 (by simp)).alloc _).below b1 (by first | omega | (simp [size_drew]; done) | (simp [size_drew]; omega))
  have xc := xc_; clear xc_
  have xo_ : Box w1 (w.heap.size + 1) #[] 3 := (Box.new (g := w.heap.size + 1) _ #[] 3 (by simp)).below b1 (by first | omega | (simp [size_drew]; done) | (simp [size_drew]; omega))
  have xo := xo_; clear xo_
  rw [k1]
  have ro := OwnL.lit0 xo
  obtain ⟨cxc_0, cxc_1, fxc_0, fxc_1⟩ := xc.two
  have l_xc_0 : w.heap.size < w1.heap.size := by omega
  go_wp2
  refine bodyPost_ret (v := .slice (some ⟨w.heap.size + 1, 0, none⟩) 0 0) (by simp [results, go_sem, Try.results28]) rfl ⟨_, _, _, rfl, ?_, ?_⟩
  ·rw [ewL_no HO2.out]; exact OwnL.widen ro (by omega)
  ·repeat (with_reducible (first | assumption | exact Below.refl _ _ | refine Below.alloc ?_ (by first | omega | (simp; done) | (simp; omega)) _ | refine Below.setCell ?_ (by first | omega | (simp; done) | (simp; omega)) _ | refine Below.drew ?_ | refine below_drewN ?_ _))
 | true =>
  cases k2 : bitsOk yL0 80 with
  | false =>
   have HO2 : Hid (ecOk cL0 cL1 yL0 = false) := by show _ = _; rw [ecOk, k1, k2]; rfl
   go_enter Try.func28, Try.ntmps28
   go_wp2_with fail
   refine (sCircuitOk_L (RdL.b cH) cL0n cL1n).mono ?_
   rintro e w1 ⟨rfl, b1⟩
   have z1 := b1.size
   try simp only [World.size_alloc, World.size_setCell, size_drew] at z1
   have B1 : Below w.heap.size w w1 := Below.t b1
   have xc_ : Box w1 (w.heap.size) #[(.slice cA0 cn0 cc0), (.slice cA1 cn1 cc1)] 27 := ((Box.new (g := w.heap.size) _ #[(.slice cA0 cn0 cc0), (.slice cA1 cn1 cc1)] 27 (by simp)).alloc _).below b1 (by first | omega | (simp [size_drew]; done) | (simp [size_drew]; omega))
   have xc := xc_; clear xc_
   have xo_ : Box w1 (w.heap.size + 1) #[] 3 := (Box.new (g := w.heap.size + 1) _ #[] 3 (by simp)).below b1 (by first | omega | (simp [size_drew]; done) | (simp [size_drew]; omega))
   have xo := xo_; clear xo_
   rw [k1]
   have ro := OwnL.lit0 xo
   obtain ⟨cxc_0, cxc_1, fxc_0, fxc_1⟩ := xc.two
   have l_xc_0 : w.heap.size < w1.heap.size := by omega
   go_wp2_with fail
   clear cxc_0 cxc_1 fxc_0 fxc_1 l_xc_0
   refine (l13Bits_any _ _ _ _ _ _ yL0i.b (by omega)).mono ?_
   rintro e w_ ⟨rfl, rfl⟩
   rw [k2]
   obtain ⟨cxc_0, cxc_1, fxc_0, fxc_1⟩ := xc.two
   have l_xc_0 : w.heap.size < w1.heap.size := by omega
   go_wp2
   refine bodyPost_ret (v := .slice (some ⟨w.heap.size + 1, 0, none⟩) 0 0) (by simp [results, go_sem, Try.results28]) rfl ⟨_, _, _, rfl, ?_, ?_⟩
   ·rw [ewL_no HO2.out]; exact OwnL.widen ro (by omega)
   ·repeat (with_reducible (first | assumption | exact Below.refl _ _ | refine Below.alloc ?_ (by first | omega | (simp; done) | (simp; omega)) _ | refine Below.setCell ?_ (by first | omega | (simp; done) | (simp; omega)) _ | refine Below.drew ?_ | refine below_drewN ?_ _))
  | true =>
   have HO2 : Hid (ecOk cL0 cL1 yL0 = true) := by show _ = _; rw [ecOk, k1, k2]; rfl
   go_enter Try.func28, Try.ntmps28
   go_wp2_with fail
   refine (sCircuitOk_L (RdL.b cH) cL0n cL1n).mono ?_
   rintro e w1 ⟨rfl, b1⟩
   have z1 := b1.size
   try simp only [World.size_alloc, World.size_setCell, size_drew] at z1
   have B1 : Below w.heap.size w w1 := Below.t b1
   have xc_ : Box w1 (w.heap.size) #[(.slice cA0 cn0 cc0), (.slice cA1 cn1 cc1)] 27 := ((Box.new (g := w.heap.size) _ #[(.slice cA0 cn0 cc0), (.slice cA1 cn1 cc1)] 27 (by simp)).alloc _).below b1 (by first | omega | (simp [size_drew]; done) | (simp [size_drew]; omega))
   have xc := xc_; clear xc_
   have xo_ : Box w1 (w.heap.size + 1) #[] 3 := (Box.new (g := w.heap.size + 1) _ #[] 3 (by simp)).below b1 (by first | omega | (simp [size_drew]; done) | (simp [size_drew]; omega))
   have xo := xo_; clear xo_
   rw [k1]
   have ro := OwnL.lit0 xo
   obtain ⟨cxc_0, cxc_1, fxc_0, fxc_1⟩ := xc.two
   have l_xc_0 : w.heap.size < w1.heap.size := by omega
   go_wp2_with fail
   clear cxc_0 cxc_1 fxc_0 fxc_1 l_xc_0
   refine (l13Bits_any _ _ _ _ _ _ yL0i.b (by omega)).mono ?_
   rintro e w_ ⟨rfl, rfl⟩
   rw [k2]
   have q2 := Lib.hid (show yn0 = 80 by have := (bits80 k2).2; have := yL0l.out; omega)
   have hyb := Lib.hid (bits80 k2).1
   have HK := Lib.hid k1
   have HG := Lib.hid cL0g
   have HY := Lib.hid yL0i
   have hc6 : cn0 ≤ 6000 := by have := circ_len k1; have := cL0l.out; omega
   obtain ⟨cxc_0, cxc_1, fxc_0, fxc_1⟩ := xc.two
   have l_xc_0 : w.heap.size < w1.heap.size := by omega
   go_wp2_with fail
   clear cxc_0 cxc_1 fxc_0 fxc_1 l_xc_0
   clear xo
   go_loopw [5, 6] (fun v i wr => ∃ (k : Nat) (A : Option Addr) (n c : Nat), k ≤ cn0 ∧ i = .int .i64 k ∧ v = .slice A n c ∧ Hid (OwnL wr (w.heap.size + 1) wr.heap.size [(.slice A n c, .ints (vXs yL0 cL0 k))]) ∧ Hid (∀ i, i < k → nth (vXs yL0 cL0 k) i = 0 ∨ nth (vXs yL0 cL0 k) i = 1) ∧ Hid (Box wr (w.heap.size) #[(.slice cA0 cn0 cc0), (.slice cA1 cn1 cc1)] 27) ∧ Below w.heap.size w wr) (fun v i wr => cn0 - (intOf i).toNat)
   case atStart => exact ⟨0, _, _, _, by omega, rfl, rfl, OwnL.widen ro (by omega), (fun i hi => absurd hi (by omega)), xc, B1⟩
   case round =>
    obtain ⟨k, vA, vn, vc, hk, rfl, rfl, ro, hbt, xc, B9⟩ := hrel
    obtain ⟨w9, hw9⟩ : ∃ x, x = wr := ⟨wr, rfl⟩
    subst hw9
    have ro := ro.out
    have xc := xc.out
    have zb_xc := xc.lt
    have hgl := Lib.hid (vXs_len yL0 cL0 k)
    have hvn : k ≤ vn := by have := ro.len; rw [hgl.out] at this; omega
    have z9 := B9.size
    by_cases hlt : k < cn0
    ·obtain ⟨g, o, rfl, hg, d0, d1, d2⟩ := (HG.out).at hlt
     change _ = some (Value.int .i64 (gAt cL0 k).1) at d0
     change _ = some (Value.int .i64 (gAt cL0 k).2.1) at d1
     change _ = some (Value.int .i64 (gAt cL0 k).2.2) at d2
     rcases gate_cases HK.out (k := k) (by rw [cL0l.out]; exact hlt) with ⟨m, hgt, hmb⟩ | ⟨m, hgt, hmb⟩ | ⟨m, j, hgt, hmb, hjb⟩ | ⟨m, j, hgt, hmb, hjb⟩ | ⟨m, hgt, hmb⟩
     ·rw [hgt] at d0 d1 d2
      dsimp only at d0 d1 d2
      have hG := Lib.hid hgt
      clear hgt
      have e0 : w9.cell? ⟨g, o + k * 3, none⟩ = some (.int .i64 1) := (cellB hg d0)
      have e0_l : g < w9.heap.size := by omega
      have e1 : w9.cell? ⟨g, o + k * 3 + 1, none⟩ = some (.int .i64 (m : Int)) := (cellB hg d1)
      have e1_l : g < w9.heap.size := by omega
      have e2 : w9.cell? ⟨g, o + k * 3 + 2, none⟩ = some (.int .i64 0) := (cellB hg d2)
      have e2_l : g < w9.heap.size := by omega
      have hmy : m < yn0 := by have := q2.out; omega
      obtain ⟨g2, g2o, rfl, g2h, hc⟩ := HY.out.block (by omega)
      have hcy := hc m (by omega)
      clear hc
      have h2 : w9.cell? ⟨g2, g2o + m, none⟩ = some (.int .i64 (nth yL0 m)) := (cellB g2h hcy)
      have h2_l : g2 < w9.heap.size := by omega
      have hF := Lib.hid (show vXs yL0 cL0 (k + 1) = vXs yL0 cL0 k ++ [nth yL0 m] by rw [vXs, vNew, hG.out]; rfl)
      have hN : nth yL0 m = 0 ∨ nth yL0 m = 1 := bit_of hyb.out (by rw [yL0l.out]; exact hmy)
      have hbt2 : Hid (∀ i, i < k + 1 → nth (vXs yL0 cL0 (k + 1)) i = 0 ∨ nth (vXs yL0 cL0 (k + 1)) i = 1) := by
       intro i hi; rw [hF.out]; rcases Nat.lt_or_ge i k with h | h
       ·rw [nth_app (by rw [hgl.out]; exact h)]; exact hbt.out i h
       ·have e : i = k := by omega
        subst e; rw [nth_end hgl.out]; exact hN
      clear hN
      obtain ⟨cxc_0, cxc_1, fxc_0, fxc_1⟩ := xc.two
      have l_xc_0 : w.heap.size < w9.heap.size := by omega
      have l_xc_1 : w.heap.size < w9.heap.size + 1 := by omega
      go_wp2_with (at_builtin; go_must (refine append_N rfl _ _ rfl (nth yL0 m) _ rfl rfl (ro.alloc _) (by first | rfl | simp) (by have := hgl.out; omega) ?_); intro qA qn qc w10 ro_ c10)
      have z10 := c10.size
      (try simp only [World.size_alloc, World.size_setCell, size_drew] at z10)
      have B10 : Below w.heap.size w w10 := Below.trans (b := _) (by repeat (with_reducible (first | assumption | exact Below.refl _ _ | refine Below.alloc ?_ (by first | omega | (simp; done) | (simp; omega)) _ | refine Below.setCell ?_ (by first | omega | (simp; done) | (simp; omega)) _ | refine Below.drew ?_ | refine below_drewN ?_ _))) (c10.below (by omega) (by first | omega | (simp [size_drew]; done) | (simp [size_drew]; omega)))
      clear ro; have ro := ro_; clear ro_
      have xc_ : Box w10 (w.heap.size) #[.slice (some ⟨g, o, none⟩) cn0 cc0, (.slice cA1 cn1 cc1)] 27 := (xc.alloc _).chg c10 (by omega)
      clear xc; have xc := xc_; clear xc_
      have xg_ : Box w10 (w9.heap.size) #[.int .i64 1, .int .i64 (m : Int), .int .i64 0] 74 := (Box.new (g := w9.heap.size) _ #[.int .i64 1, .int .i64 (m : Int), .int .i64 0] 74 (by simp)).chg c10 (by omega)
      have xg := xg_; clear xg_
      rw [← hF.out] at ro
      go_wp2
      go_roundw
      case rel => exact ⟨k + 1, _, _, _, by omega, by go_num, rfl, OwnL.widen ro (by omega), hbt2, xc, B10⟩
      case measure => simp [intOf]; omega
     ·rw [hgt] at d0 d1 d2
      dsimp only at d0 d1 d2
      have hG := Lib.hid hgt
      clear hgt
      have e0 : w9.cell? ⟨g, o + k * 3, none⟩ = some (.int .i64 2) := (cellB hg d0)
      have e0_l : g < w9.heap.size := by omega
      have e1 : w9.cell? ⟨g, o + k * 3 + 1, none⟩ = some (.int .i64 (m : Int)) := (cellB hg d1)
      have e1_l : g < w9.heap.size := by omega
      have e2 : w9.cell? ⟨g, o + k * 3 + 2, none⟩ = some (.int .i64 0) := (cellB hg d2)
      have e2_l : g < w9.heap.size := by omega
      have hF := Lib.hid (show vXs yL0 cL0 (k + 1) = vXs yL0 cL0 k ++ [(m : Int)] by rw [vXs, vNew, hG.out]; rfl)
      have hN : (m : Int) = 0 ∨ (m : Int) = 1 := by omega
      have hbt2 : Hid (∀ i, i < k + 1 → nth (vXs yL0 cL0 (k + 1)) i = 0 ∨ nth (vXs yL0 cL0 (k + 1)) i = 1) := by
       intro i hi; rw [hF.out]; rcases Nat.lt_or_ge i k with h | h
       ·rw [nth_app (by rw [hgl.out]; exact h)]; exact hbt.out i h
       ·have e : i = k := by omega
        subst e; rw [nth_end hgl.out]; exact hN
      clear hN
      obtain ⟨cxc_0, cxc_1, fxc_0, fxc_1⟩ := xc.two
      have l_xc_0 : w.heap.size < w9.heap.size := by omega
      have l_xc_1 : w.heap.size < w9.heap.size + 1 := by omega
      go_wp2_with (at_builtin; go_must (refine append_N rfl _ _ rfl ((m : Int)) _ rfl rfl (ro.alloc _) (by first | rfl | simp) (by have := hgl.out; omega) ?_); intro qA qn qc w10 ro_ c10)
      have z10 := c10.size
      (try simp only [World.size_alloc, World.size_setCell, size_drew] at z10)
      have B10 : Below w.heap.size w w10 := Below.trans (b := _) (by repeat (with_reducible (first | assumption | exact Below.refl _ _ | refine Below.alloc ?_ (by first | omega | (simp; done) | (simp; omega)) _ | refine Below.setCell ?_ (by first | omega | (simp; done) | (simp; omega)) _ | refine Below.drew ?_ | refine below_drewN ?_ _))) (c10.below (by omega) (by first | omega | (simp [size_drew]; done) | (simp [size_drew]; omega)))
      clear ro; have ro := ro_; clear ro_
      have xc_ : Box w10 (w.heap.size) #[.slice (some ⟨g, o, none⟩) cn0 cc0, (.slice cA1 cn1 cc1)] 27 := (xc.alloc _).chg c10 (by omega)
      clear xc; have xc := xc_; clear xc_
      have xg_ : Box w10 (w9.heap.size) #[.int .i64 2, .int .i64 (m : Int), .int .i64 0] 74 := (Box.new (g := w9.heap.size) _ #[.int .i64 2, .int .i64 (m : Int), .int .i64 0] 74 (by simp)).chg c10 (by omega)
      have xg := xg_; clear xg_
      rw [← hF.out] at ro
      go_wp2
      go_roundw
      case rel => exact ⟨k + 1, _, _, _, by omega, by go_num, rfl, OwnL.widen ro (by omega), hbt2, xc, B10⟩
      case measure => simp [intOf]; omega
     ·rw [hgt] at d0 d1 d2
      dsimp only at d0 d1 d2
      have hG := Lib.hid hgt
      clear hgt
      have e0 : w9.cell? ⟨g, o + k * 3, none⟩ = some (.int .i64 3) := (cellB hg d0)
      have e0_l : g < w9.heap.size := by omega
      have e1 : w9.cell? ⟨g, o + k * 3 + 1, none⟩ = some (.int .i64 (m : Int)) := (cellB hg d1)
      have e1_l : g < w9.heap.size := by omega
      have e2 : w9.cell? ⟨g, o + k * 3 + 2, none⟩ = some (.int .i64 (j : Int)) := (cellB hg d2)
      have e2_l : g < w9.heap.size := by omega
      obtain ⟨v1, v2, rfl⟩ := ro.some (by rw [hgl.out]; omega)
      have hom := OwnL.cellAt ro m (by rw [hgl.out]; exact hmb)
      have hvm := hbt.out m hmb
      have hzbm : m < vn := by omega
      have hoj := OwnL.cellAt ro j (by rw [hgl.out]; exact hjb)
      have hvj := hbt.out j hjb
      have hzbj : j < vn := by omega
      have v1l : v1 < w9.heap.size := World.block_lt_of_cell? _ _ hom
      have hF := Lib.hid (show vXs yL0 cL0 (k + 1) = vXs yL0 cL0 k ++ [bits .xor .i64 (nth (vXs yL0 cL0 k) m) (nth (vXs yL0 cL0 k) j)] by rw [vXs, vNew, hG.out]; rfl)
      have hN : bits .xor .i64 (nth (vXs yL0 cL0 k) m) (nth (vXs yL0 cL0 k) j) = 0 ∨ bits .xor .i64 (nth (vXs yL0 cL0 k) m) (nth (vXs yL0 cL0 k) j) = 1 := xor_bits hvm hvj
      have hbt2 : Hid (∀ i, i < k + 1 → nth (vXs yL0 cL0 (k + 1)) i = 0 ∨ nth (vXs yL0 cL0 (k + 1)) i = 1) := by
       intro i hi; rw [hF.out]; rcases Nat.lt_or_ge i k with h | h
       ·rw [nth_app (by rw [hgl.out]; exact h)]; exact hbt.out i h
       ·have e : i = k := by omega
        subst e; rw [nth_end hgl.out]; exact hN
      clear hN
      clear hvm hvj
      obtain ⟨cxc_0, cxc_1, fxc_0, fxc_1⟩ := xc.two
      have l_xc_0 : w.heap.size < w9.heap.size := by omega
      have l_xc_1 : w.heap.size < w9.heap.size + 1 := by omega
      go_wp2_with fail
      clear cxc_0 cxc_1 fxc_0 fxc_1 l_xc_0 l_xc_1
      go_wp2_with fail
      generalize hw10 : World.alloc _ _ = w10
      have z10 : w9.heap.size + 1 ≤ w10.heap.size := by rw [← hw10]; simp
      have B10 : Below w.heap.size w w10 := by rw [← hw10]; repeat (with_reducible (first | assumption | exact Below.refl _ _ | refine Below.alloc ?_ (by first | omega | (simp; done) | (simp; omega)) _ | refine Below.setCell ?_ (by first | omega | (simp; done) | (simp; omega)) _ | refine Below.drew ?_ | refine below_drewN ?_ _))
      have hK : ∀ k, k < w9.heap.size → w10.heap[k]? = w9.heap[k]? := by
       intro k hk; rw [← hw10]
       repeat (first | rfl | refine (Below.heap_alloc _ _ _ (by first | omega | (simp; omega))).trans ?_)
      have ro_ := ro.keepBlock (w' := w10) (by omega) (fun k h1 h2 => hK k  (by have := ro.2.1; omega))
      clear ro; have ro := ro_; clear ro_
      have xc_ : Box w10 (w.heap.size) #[.slice (some ⟨g, o, none⟩) cn0 cc0, (.slice cA1 cn1 cc1)] 27 := (by rw [← hw10]; exact (xc.alloc _))
      clear xc; have xc := xc_; clear xc_
      have xg_ : Box w10 (w9.heap.size) #[.int .i64 3, .int .i64 (m : Int), .int .i64 (j : Int)] 74 := (by rw [← hw10]; exact (Box.new (g := w9.heap.size) _ #[.int .i64 3, .int .i64 (m : Int), .int .i64 (j : Int)] 74 (by simp)))
      have xg := xg_; clear xg_
      clear hw10 hK
      refine wp_region_held_drew (S := fun W => W.cell? ⟨w9.heap.size, 0, none⟩ = some (.int .i64 3) ∧ W.cell? ⟨w9.heap.size, 1, none⟩ = some (.int .i64 (m : Int)) ∧ W.cell? ⟨w9.heap.size, 2, none⟩ = some (.int .i64 (j : Int)) ∧ W.cell? ⟨v1, v2 + m, none⟩ = some (.int .i64 (nth (vXs yL0 cL0 k) m)) ∧ W.cell? ⟨v1, v2 + j, none⟩ = some (.int .i64 (nth (vXs yL0 cL0 k) j))) (by kernel_rfl) ⟨xg.drew.three.1, xg.drew.three.2.1, xg.drew.three.2.2.1, (OwnL.cellAt (ro.drew) m (by rw [hgl.out]; exact hmb)), (OwnL.cellAt (ro.drew) j (by rw [hgl.out]; exact hjb))⟩ (fun hS => ?_)
      (refine tk 0 hS ?_; (try simp only [Act.put, layA, layB, layC]))
      (refine tk 1 hS ?_; (try simp only [Act.put, layA, layB, layC]))
      (refine tk 2 hS ?_; (try simp only [Act.put, layA, layB, layC]))
      (refine tk 3 hS ?_; (try simp only [Act.put, layA, layB, layC]))
      (refine tk 4 hS ?_; (try simp only [Act.put, layA, layB, layC]))
      (refine tk 5 hS ?_; (try simp only [Act.put, layA, layB, layC]))
      (refine tk 6 hS ?_; (try simp only [Act.put, layA, layB, layC]))
      (refine tk 7 hS ?_; (try simp only [Act.put, layA, layB, layC]))
      (refine tk 8 hS ?_; (try simp only [Act.put, layA, layB, layC]))
      (refine tk 9 hS ?_; (try simp only [Act.put, layA, layB, layC]))
      (refine tk 10 hS ?_; (try simp only [Act.put, layA, layB, layC]))
      (refine tk 11 hS ?_; (try simp only [Act.put, layA, layB, layC]))
      clear hS
      refine wpAnyH_done (by kernel_rfl) ?_ _
      generalize hw11 : World.drew _ = w11
      have z11 : w10.heap.size ≤ w11.heap.size := by rw [← hw11]; simp [size_drew]
      have B11 : Below w.heap.size w w11 := by rw [← hw11]; repeat (with_reducible (first | assumption | exact Below.refl _ _ | refine Below.alloc ?_ (by first | omega | (simp; done) | (simp; omega)) _ | refine Below.setCell ?_ (by first | omega | (simp; done) | (simp; omega)) _ | refine Below.drew ?_ | refine below_drewN ?_ _))
      have hK : ∀ k, k < w10.heap.size → w11.heap[k]? = w10.heap[k]? := by
       intro k hk; rw [← hw11]
       repeat (first | rfl | refine (Below.heap_alloc _ _ _ (by first | omega | (simp; omega))).trans ?_)
      have ro_ := ro.keepBlock (w' := w11) (by omega) (fun k h1 h2 => hK k  (by have := ro.2.1; omega))
      clear ro; have ro := ro_; clear ro_
      have xc_ : Box w11 (w.heap.size) #[.slice (some ⟨g, o, none⟩) cn0 cc0, (.slice cA1 cn1 cc1)] 27 := (by rw [← hw11]; exact xc)
      clear xc; have xc := xc_; clear xc_
      have xg_ : Box w11 (w9.heap.size) #[.int .i64 3, .int .i64 (m : Int), .int .i64 (j : Int)] 74 := (by rw [← hw11]; exact xg)
      clear xg; have xg := xg_; clear xg_
      clear hw11 hK
      obtain ⟨cxc_0, cxc_1, fxc_0, fxc_1⟩ := xc.two
      have l_xc_0 : w.heap.size < w11.heap.size := by omega
      go_wp2_with (at_builtin; go_must (refine append_N rfl _ _ rfl (bits .xor .i64 (nth (vXs yL0 cL0 k) m) (nth (vXs yL0 cL0 k) j)) _ rfl rfl ro (by first | rfl | simp) (by have := hgl.out; omega) ?_); intro qA qn qc w12 ro_ c12)
      have z12 := c12.size
      (try simp only [World.size_alloc, World.size_setCell, size_drew] at z12)
      have B12 : Below w.heap.size w w12 := Below.trans (b := _) (by repeat (with_reducible (first | assumption | exact Below.refl _ _ | refine Below.alloc ?_ (by first | omega | (simp; done) | (simp; omega)) _ | refine Below.setCell ?_ (by first | omega | (simp; done) | (simp; omega)) _ | refine Below.drew ?_ | refine below_drewN ?_ _))) (c12.below (by omega) (by first | omega | (simp [size_drew]; done) | (simp [size_drew]; omega)))
      clear ro; have ro := ro_; clear ro_
      have xc_ : Box w12 (w.heap.size) #[.slice (some ⟨g, o, none⟩) cn0 cc0, (.slice cA1 cn1 cc1)] 27 := xc.chg c12 (by omega)
      clear xc; have xc := xc_; clear xc_
      have xg_ : Box w12 (w9.heap.size) #[.int .i64 3, .int .i64 (m : Int), .int .i64 (j : Int)] 74 := xg.chg c12 (by omega)
      clear xg; have xg := xg_; clear xg_
      rw [← hF.out] at ro
      go_wp2
      go_roundw
      case rel => exact ⟨k + 1, _, _, _, by omega, by go_num, rfl, OwnL.widen ro (by omega), hbt2, xc, B12⟩
      case measure => simp [intOf]; omega
     ·rw [hgt] at d0 d1 d2
      dsimp only at d0 d1 d2
      have hG := Lib.hid hgt
      clear hgt
      have e0 : w9.cell? ⟨g, o + k * 3, none⟩ = some (.int .i64 4) := (cellB hg d0)
      have e0_l : g < w9.heap.size := by omega
      have e1 : w9.cell? ⟨g, o + k * 3 + 1, none⟩ = some (.int .i64 (m : Int)) := (cellB hg d1)
      have e1_l : g < w9.heap.size := by omega
      have e2 : w9.cell? ⟨g, o + k * 3 + 2, none⟩ = some (.int .i64 (j : Int)) := (cellB hg d2)
      have e2_l : g < w9.heap.size := by omega
      obtain ⟨v1, v2, rfl⟩ := ro.some (by rw [hgl.out]; omega)
      have hom := OwnL.cellAt ro m (by rw [hgl.out]; exact hmb)
      have hvm := hbt.out m hmb
      have hzbm : m < vn := by omega
      have hoj := OwnL.cellAt ro j (by rw [hgl.out]; exact hjb)
      have hvj := hbt.out j hjb
      have hzbj : j < vn := by omega
      have v1l : v1 < w9.heap.size := World.block_lt_of_cell? _ _ hom
      have hF := Lib.hid (show vXs yL0 cL0 (k + 1) = vXs yL0 cL0 k ++ [bits .and .i64 (nth (vXs yL0 cL0 k) m) (nth (vXs yL0 cL0 k) j)] by rw [vXs, vNew, hG.out]; rfl)
      have hN : bits .and .i64 (nth (vXs yL0 cL0 k) m) (nth (vXs yL0 cL0 k) j) = 0 ∨ bits .and .i64 (nth (vXs yL0 cL0 k) m) (nth (vXs yL0 cL0 k) j) = 1 := and_bit2 hvm hvj
      have hbt2 : Hid (∀ i, i < k + 1 → nth (vXs yL0 cL0 (k + 1)) i = 0 ∨ nth (vXs yL0 cL0 (k + 1)) i = 1) := by
       intro i hi; rw [hF.out]; rcases Nat.lt_or_ge i k with h | h
       ·rw [nth_app (by rw [hgl.out]; exact h)]; exact hbt.out i h
       ·have e : i = k := by omega
        subst e; rw [nth_end hgl.out]; exact hN
      clear hN
      clear hvm hvj
      obtain ⟨cxc_0, cxc_1, fxc_0, fxc_1⟩ := xc.two
      have l_xc_0 : w.heap.size < w9.heap.size := by omega
      have l_xc_1 : w.heap.size < w9.heap.size + 1 := by omega
      go_wp2_with fail
      clear cxc_0 cxc_1 fxc_0 fxc_1 l_xc_0 l_xc_1
      go_wp2_with fail
      generalize hw10 : World.alloc _ _ = w10
      have z10 : w9.heap.size + 1 ≤ w10.heap.size := by rw [← hw10]; simp
      have B10 : Below w.heap.size w w10 := by rw [← hw10]; repeat (with_reducible (first | assumption | exact Below.refl _ _ | refine Below.alloc ?_ (by first | omega | (simp; done) | (simp; omega)) _ | refine Below.setCell ?_ (by first | omega | (simp; done) | (simp; omega)) _ | refine Below.drew ?_ | refine below_drewN ?_ _))
      have hK : ∀ k, k < w9.heap.size → w10.heap[k]? = w9.heap[k]? := by
       intro k hk; rw [← hw10]
       repeat (first | rfl | refine (Below.heap_alloc _ _ _ (by first | omega | (simp; omega))).trans ?_)
      have ro_ := ro.keepBlock (w' := w10) (by omega) (fun k h1 h2 => hK k  (by have := ro.2.1; omega))
      clear ro; have ro := ro_; clear ro_
      have xc_ : Box w10 (w.heap.size) #[.slice (some ⟨g, o, none⟩) cn0 cc0, (.slice cA1 cn1 cc1)] 27 := (by rw [← hw10]; exact (xc.alloc _))
      clear xc; have xc := xc_; clear xc_
      have xg_ : Box w10 (w9.heap.size) #[.int .i64 4, .int .i64 (m : Int), .int .i64 (j : Int)] 74 := (by rw [← hw10]; exact (Box.new (g := w9.heap.size) _ #[.int .i64 4, .int .i64 (m : Int), .int .i64 (j : Int)] 74 (by simp)))
      have xg := xg_; clear xg_
      clear hw10 hK
      refine wp_region_held_drew (S := fun W => W.cell? ⟨w9.heap.size, 0, none⟩ = some (.int .i64 4) ∧ W.cell? ⟨w9.heap.size, 1, none⟩ = some (.int .i64 (m : Int)) ∧ W.cell? ⟨w9.heap.size, 2, none⟩ = some (.int .i64 (j : Int)) ∧ W.cell? ⟨v1, v2 + m, none⟩ = some (.int .i64 (nth (vXs yL0 cL0 k) m)) ∧ W.cell? ⟨v1, v2 + j, none⟩ = some (.int .i64 (nth (vXs yL0 cL0 k) j))) (by kernel_rfl) ⟨xg.drew.three.1, xg.drew.three.2.1, xg.drew.three.2.2.1, (OwnL.cellAt (ro.drew) m (by rw [hgl.out]; exact hmb)), (OwnL.cellAt (ro.drew) j (by rw [hgl.out]; exact hjb))⟩ (fun hS => ?_)
      (refine tk 0 hS ?_; (try simp only [Act.put, layA, layB, layC]))
      (refine tk 1 hS ?_; (try simp only [Act.put, layA, layB, layC]))
      (refine tk 2 hS ?_; (try simp only [Act.put, layA, layB, layC]))
      (refine tk 3 hS ?_; (try simp only [Act.put, layA, layB, layC]))
      (refine tk 4 hS ?_; (try simp only [Act.put, layA, layB, layC]))
      (refine tk 5 hS ?_; (try simp only [Act.put, layA, layB, layC]))
      (refine tk 6 hS ?_; (try simp only [Act.put, layA, layB, layC]))
      (refine tk 7 hS ?_; (try simp only [Act.put, layA, layB, layC]))
      (refine tk 8 hS ?_; (try simp only [Act.put, layA, layB, layC]))
      (refine tk 9 hS ?_; (try simp only [Act.put, layA, layB, layC]))
      (refine tk 10 hS ?_; (try simp only [Act.put, layA, layB, layC]))
      (refine tk 11 hS ?_; (try simp only [Act.put, layA, layB, layC]))
      clear hS
      refine wpAnyH_done (by kernel_rfl) ?_ _
      generalize hw11 : World.drew _ = w11
      have z11 : w10.heap.size ≤ w11.heap.size := by rw [← hw11]; simp [size_drew]
      have B11 : Below w.heap.size w w11 := by rw [← hw11]; repeat (with_reducible (first | assumption | exact Below.refl _ _ | refine Below.alloc ?_ (by first | omega | (simp; done) | (simp; omega)) _ | refine Below.setCell ?_ (by first | omega | (simp; done) | (simp; omega)) _ | refine Below.drew ?_ | refine below_drewN ?_ _))
      have hK : ∀ k, k < w10.heap.size → w11.heap[k]? = w10.heap[k]? := by
       intro k hk; rw [← hw11]
       repeat (first | rfl | refine (Below.heap_alloc _ _ _ (by first | omega | (simp; omega))).trans ?_)
      have ro_ := ro.keepBlock (w' := w11) (by omega) (fun k h1 h2 => hK k  (by have := ro.2.1; omega))
      clear ro; have ro := ro_; clear ro_
      have xc_ : Box w11 (w.heap.size) #[.slice (some ⟨g, o, none⟩) cn0 cc0, (.slice cA1 cn1 cc1)] 27 := (by rw [← hw11]; exact xc)
      clear xc; have xc := xc_; clear xc_
      have xg_ : Box w11 (w9.heap.size) #[.int .i64 4, .int .i64 (m : Int), .int .i64 (j : Int)] 74 := (by rw [← hw11]; exact xg)
      clear xg; have xg := xg_; clear xg_
      clear hw11 hK
      obtain ⟨cxc_0, cxc_1, fxc_0, fxc_1⟩ := xc.two
      have l_xc_0 : w.heap.size < w11.heap.size := by omega
      go_wp2_with (at_builtin; go_must (refine append_N rfl _ _ rfl (bits .and .i64 (nth (vXs yL0 cL0 k) m) (nth (vXs yL0 cL0 k) j)) _ rfl rfl ro (by first | rfl | simp) (by have := hgl.out; omega) ?_); intro qA qn qc w12 ro_ c12)
      have z12 := c12.size
      (try simp only [World.size_alloc, World.size_setCell, size_drew] at z12)
      have B12 : Below w.heap.size w w12 := Below.trans (b := _) (by repeat (with_reducible (first | assumption | exact Below.refl _ _ | refine Below.alloc ?_ (by first | omega | (simp; done) | (simp; omega)) _ | refine Below.setCell ?_ (by first | omega | (simp; done) | (simp; omega)) _ | refine Below.drew ?_ | refine below_drewN ?_ _))) (c12.below (by omega) (by first | omega | (simp [size_drew]; done) | (simp [size_drew]; omega)))
      clear ro; have ro := ro_; clear ro_
      have xc_ : Box w12 (w.heap.size) #[.slice (some ⟨g, o, none⟩) cn0 cc0, (.slice cA1 cn1 cc1)] 27 := xc.chg c12 (by omega)
      clear xc; have xc := xc_; clear xc_
      have xg_ : Box w12 (w9.heap.size) #[.int .i64 4, .int .i64 (m : Int), .int .i64 (j : Int)] 74 := xg.chg c12 (by omega)
      clear xg; have xg := xg_; clear xg_
      rw [← hF.out] at ro
      go_wp2
      go_roundw
      case rel => exact ⟨k + 1, _, _, _, by omega, by go_num, rfl, OwnL.widen ro (by omega), hbt2, xc, B12⟩
      case measure => simp [intOf]; omega
     ·rw [hgt] at d0 d1 d2
      dsimp only at d0 d1 d2
      have hG := Lib.hid hgt
      clear hgt
      have e0 : w9.cell? ⟨g, o + k * 3, none⟩ = some (.int .i64 5) := (cellB hg d0)
      have e0_l : g < w9.heap.size := by omega
      have e1 : w9.cell? ⟨g, o + k * 3 + 1, none⟩ = some (.int .i64 (m : Int)) := (cellB hg d1)
      have e1_l : g < w9.heap.size := by omega
      have e2 : w9.cell? ⟨g, o + k * 3 + 2, none⟩ = some (.int .i64 0) := (cellB hg d2)
      have e2_l : g < w9.heap.size := by omega
      obtain ⟨v1, v2, rfl⟩ := ro.some (by rw [hgl.out]; omega)
      have hom := OwnL.cellAt ro m (by rw [hgl.out]; exact hmb)
      have hvm := hbt.out m hmb
      have hzbm : m < vn := by omega
      have v1l : v1 < w9.heap.size := World.block_lt_of_cell? _ _ hom
      obtain ⟨hb1, hb2⟩ : 0 ≤ nth (vXs yL0 cL0 k) m ∧ nth (vXs yL0 cL0 k) m ≤ 1 := by omega
      have hF := Lib.hid (show vXs yL0 cL0 (k + 1) = vXs yL0 cL0 k ++ [1 - nth (vXs yL0 cL0 k) m] by rw [vXs, vNew, hG.out]; rfl)
      have hN : 1 - nth (vXs yL0 cL0 k) m = 0 ∨ 1 - nth (vXs yL0 cL0 k) m = 1 := by omega
      have hbt2 : Hid (∀ i, i < k + 1 → nth (vXs yL0 cL0 (k + 1)) i = 0 ∨ nth (vXs yL0 cL0 (k + 1)) i = 1) := by
       intro i hi; rw [hF.out]; rcases Nat.lt_or_ge i k with h | h
       ·rw [nth_app (by rw [hgl.out]; exact h)]; exact hbt.out i h
       ·have e : i = k := by omega
        subst e; rw [nth_end hgl.out]; exact hN
      clear hN
      clear hvm
      obtain ⟨cxc_0, cxc_1, fxc_0, fxc_1⟩ := xc.two
      have l_xc_0 : w.heap.size < w9.heap.size := by omega
      have l_xc_1 : w.heap.size < w9.heap.size + 1 := by omega
      go_wp2_with (at_builtin; go_must (refine append_N rfl _ _ rfl (1 - nth (vXs yL0 cL0 k) m) _ rfl rfl (ro.alloc _) (by first | rfl | simp) (by have := hgl.out; omega) ?_); intro qA qn qc w10 ro_ c10)
      have z10 := c10.size
      (try simp only [World.size_alloc, World.size_setCell, size_drew] at z10)
      have B10 : Below w.heap.size w w10 := Below.trans (b := _) (by repeat (with_reducible (first | assumption | exact Below.refl _ _ | refine Below.alloc ?_ (by first | omega | (simp; done) | (simp; omega)) _ | refine Below.setCell ?_ (by first | omega | (simp; done) | (simp; omega)) _ | refine Below.drew ?_ | refine below_drewN ?_ _))) (c10.below (by omega) (by first | omega | (simp [size_drew]; done) | (simp [size_drew]; omega)))
      clear ro; have ro := ro_; clear ro_
      have xc_ : Box w10 (w.heap.size) #[.slice (some ⟨g, o, none⟩) cn0 cc0, (.slice cA1 cn1 cc1)] 27 := (xc.alloc _).chg c10 (by omega)
      clear xc; have xc := xc_; clear xc_
      have xg_ : Box w10 (w9.heap.size) #[.int .i64 5, .int .i64 (m : Int), .int .i64 0] 74 := (Box.new (g := w9.heap.size) _ #[.int .i64 5, .int .i64 (m : Int), .int .i64 0] 74 (by simp)).chg c10 (by omega)
      have xg := xg_; clear xg_
      rw [← hF.out] at ro
      go_wp2
      go_roundw
      case rel => exact ⟨k + 1, _, _, _, by omega, by go_num, rfl, OwnL.widen ro (by omega), hbt2, xc, B10⟩
      case measure => simp [intOf]; omega
    ·have hkn : k = cn0 := by omega
     obtain ⟨cxc_0, cxc_1, fxc_0, fxc_1⟩ := xc.two
     have l_xc_0 : w.heap.size < w9.heap.size := by omega
     go_wp2
     refine bodyPost_ret (v := .slice vA vn vc) (by simp [results, go_sem, Try.results28]) rfl ⟨_, _, _, rfl, ?_, ?_⟩
     ·rw [ewL_yes HO2.out, cL0l.out, ← hkn]; exact OwnL.widen ro (by omega)
     ·repeat (with_reducible (first | assumption | exact Below.refl _ _ | refine Below.alloc ?_ (by first | omega | (simp; done) | (simp; omega)) _ | refine Below.setCell ?_ (by first | omega | (simp; done) | (simp; omega)) _ | refine Below.drew ?_ | refine below_drewN ?_ _))
set_option maxRecDepth 100000 in
set_option maxHeartbeats 2000000 in
theorem sEvalCircuit_L {cA0 : Option Addr} {cn0 cc0 : Nat} {cL0 : List (Int × Int × Int)} {cA1 : Option Addr} {cn1 cc1 : Nat} {cL1 : List Int} {yA0 : Option Addr} {yn0 yc0 : Nat} {yL0 : List Int} {w : World} (cH : RdL w [((.slice cA0 cn0 cc0), .gates cL0), ((.slice cA1 cn1 cc1), .ints cL1)]) (cL0n : cL0.length ≤ 1048576) (cL1n : cL1.length ≤ 1048576) (yH : RdL w [((.slice yA0 yn0 yc0), .ints yL0)]) (yL0n : yL0.length ≤ 1048576) :
  Calls Try.prog 77 #[.agg #[(.slice cA0 cn0 cc0), (.slice cA1 cn1 cc1)], (.slice yA0 yn0 yc0)] w fun e w' => ∃ rA0 rn0 rc0, e = .returned (.tuple #[.slice rA0 rn0 rc0, .bool (ecOk cL0 cL1 yL0)]) ∧ OwnL w' w.heap.size w'.heap.size [(.slice rA0 rn0 rc0, .ints (ecL cL0 cL1 yL0))] ∧ Below w.heap.size w w' := by
 have cL0g : Gates w cA0 cn0 cL0 := RdG.toG (cH ((.slice cA0 cn0 cc0), .gates cL0) (by simp))
 have cL0l := Lib.hid cL0g.1
 have cL0m : cn0 ≤ 1048576 := by rw [← cL0l.out]; exact cL0n
 have cL1i : Ints w cA1 cn1 cL1 := Rd.toInts (cH ((.slice cA1 cn1 cc1), .ints cL1) (by simp))
 have cL1l := Lib.hid cL1i.len
 have cL1m : cn1 ≤ 1048576 := by rw [← cL1l.out]; exact cL1n
 have yL0i : Ints w yA0 yn0 yL0 := Rd.toInts (yH ((.slice yA0 yn0 yc0), .ints yL0) (by simp))
 have yL0l := Lib.hid yL0i.len
 have yL0m : yn0 ≤ 1048576 := by rw [← yL0l.out]; exact yL0n
 cases k1 : circOk cL0 cL1 with
 | false =>
  have HO2 : Hid (ecOk cL0 cL1 yL0 = false) := by show _ = _; rw [ecOk, k1]; rfl
  go_enter Try.func77, Try.ntmps77
  go_wp2_with fail
  refine (sCircuitOk_L (RdL.b cH) cL0n cL1n).mono ?_
  rintro e w1 ⟨rfl, b1⟩
  have z1 := b1.size
  try simp only [World.size_alloc, World.size_setCell, size_drew] at z1
  have B1 : Below w.heap.size w w1 := Below.t b1
  have xc_ : Box w1 (w.heap.size) #[(.slice cA0 cn0 cc0), (.slice cA1 cn1 cc1)] 27 := ((Box.new (g := w.heap.size) _ #[(.slice cA0 cn0 cc0), (.slice cA1 cn1 cc1)] 27 (by simp)).alloc _).below b1 (by first | omega | (simp [size_drew]; done) | (simp [size_drew]; omega))
  have xc := xc_; clear xc_
  have xo_ : Box w1 (w.heap.size + 1) #[] 3 := (Box.new (g := w.heap.size + 1) _ #[] 3 (by simp)).below b1 (by first | omega | (simp [size_drew]; done) | (simp [size_drew]; omega))
  have xo := xo_; clear xo_
  rw [k1]
  have ro := OwnL.lit0 xo
  obtain ⟨cxc_0, cxc_1, fxc_0, fxc_1⟩ := xc.two
  have l_xc_0 : w.heap.size < w1.heap.size := by omega
  go_wp2
  refine bodyPost_ret (v := .tuple #[.slice (some ⟨w.heap.size + 1, 0, none⟩) 0 0, .bool false]) (by simp [results, go_sem, Try.results77]) rfl ⟨_, _, _, by rw [HO2.out], ?_, ?_⟩
  ·rw [ecL_no HO2.out]; exact OwnL.widen ro (by omega)
  ·repeat (with_reducible (first | assumption | exact Below.refl _ _ | refine Below.alloc ?_ (by first | omega | (simp; done) | (simp; omega)) _ | refine Below.setCell ?_ (by first | omega | (simp; done) | (simp; omega)) _ | refine Below.drew ?_ | refine below_drewN ?_ _))
 | true =>
  cases k2 : bitsOk yL0 80 with
  | false =>
   have HO2 : Hid (ecOk cL0 cL1 yL0 = false) := by show _ = _; rw [ecOk, k1, k2]; rfl
   go_enter Try.func77, Try.ntmps77
   go_wp2_with fail
   refine (sCircuitOk_L (RdL.b cH) cL0n cL1n).mono ?_
   rintro e w1 ⟨rfl, b1⟩
   have z1 := b1.size
   try simp only [World.size_alloc, World.size_setCell, size_drew] at z1
   have B1 : Below w.heap.size w w1 := Below.t b1
   have xc_ : Box w1 (w.heap.size) #[(.slice cA0 cn0 cc0), (.slice cA1 cn1 cc1)] 27 := ((Box.new (g := w.heap.size) _ #[(.slice cA0 cn0 cc0), (.slice cA1 cn1 cc1)] 27 (by simp)).alloc _).below b1 (by first | omega | (simp [size_drew]; done) | (simp [size_drew]; omega))
   have xc := xc_; clear xc_
   have xo_ : Box w1 (w.heap.size + 1) #[] 3 := (Box.new (g := w.heap.size + 1) _ #[] 3 (by simp)).below b1 (by first | omega | (simp [size_drew]; done) | (simp [size_drew]; omega))
   have xo := xo_; clear xo_
   rw [k1]
   have ro := OwnL.lit0 xo
   obtain ⟨cxc_0, cxc_1, fxc_0, fxc_1⟩ := xc.two
   have l_xc_0 : w.heap.size < w1.heap.size := by omega
   go_wp2_with fail
   clear cxc_0 cxc_1 fxc_0 fxc_1 l_xc_0
   refine (l13Bits_any _ _ _ _ _ _ yL0i.b (by omega)).mono ?_
   rintro e w_ ⟨rfl, rfl⟩
   rw [k2]
   obtain ⟨cxc_0, cxc_1, fxc_0, fxc_1⟩ := xc.two
   have l_xc_0 : w.heap.size < w1.heap.size := by omega
   go_wp2
   refine bodyPost_ret (v := .tuple #[.slice (some ⟨w.heap.size + 1, 0, none⟩) 0 0, .bool false]) (by simp [results, go_sem, Try.results77]) rfl ⟨_, _, _, by rw [HO2.out], ?_, ?_⟩
   ·rw [ecL_no HO2.out]; exact OwnL.widen ro (by omega)
   ·repeat (with_reducible (first | assumption | exact Below.refl _ _ | refine Below.alloc ?_ (by first | omega | (simp; done) | (simp; omega)) _ | refine Below.setCell ?_ (by first | omega | (simp; done) | (simp; omega)) _ | refine Below.drew ?_ | refine below_drewN ?_ _))
  | true =>
   have HO2 : Hid (ecOk cL0 cL1 yL0 = true) := by show _ = _; rw [ecOk, k1, k2]; rfl
   go_enter Try.func77, Try.ntmps77
   go_wp2_with fail
   refine (sCircuitOk_L (RdL.b cH) cL0n cL1n).mono ?_
   rintro e w1 ⟨rfl, b1⟩
   have z1 := b1.size
   try simp only [World.size_alloc, World.size_setCell, size_drew] at z1
   have B1 : Below w.heap.size w w1 := Below.t b1
   have xc_ : Box w1 (w.heap.size) #[(.slice cA0 cn0 cc0), (.slice cA1 cn1 cc1)] 27 := ((Box.new (g := w.heap.size) _ #[(.slice cA0 cn0 cc0), (.slice cA1 cn1 cc1)] 27 (by simp)).alloc _).below b1 (by first | omega | (simp [size_drew]; done) | (simp [size_drew]; omega))
   have xc := xc_; clear xc_
   have xo_ : Box w1 (w.heap.size + 1) #[] 3 := (Box.new (g := w.heap.size + 1) _ #[] 3 (by simp)).below b1 (by first | omega | (simp [size_drew]; done) | (simp [size_drew]; omega))
   have xo := xo_; clear xo_
   rw [k1]
   have ro := OwnL.lit0 xo
   obtain ⟨cxc_0, cxc_1, fxc_0, fxc_1⟩ := xc.two
   have l_xc_0 : w.heap.size < w1.heap.size := by omega
   go_wp2_with fail
   clear cxc_0 cxc_1 fxc_0 fxc_1 l_xc_0
   refine (l13Bits_any _ _ _ _ _ _ yL0i.b (by omega)).mono ?_
   rintro e w_ ⟨rfl, rfl⟩
   rw [k2]
   have HK := Lib.hid k1
   have HO := Lib.hid cL1i
   obtain ⟨cxc_0, cxc_1, fxc_0, fxc_1⟩ := xc.two
   have l_xc_0 : w.heap.size < w1.heap.size := by omega
   go_wp2_with fail
   refine (sEvalWires_L (RdL.b cH) cL0n cL1n (RdL.b yH) yL0n).mono ?_
   rintro e w2 ⟨eA, en, ec, rfl, re, b2⟩
   clear cxc_0 cxc_1 fxc_0 fxc_1 l_xc_0
   have z2 := b2.size
   try simp only [World.size_alloc, World.size_setCell, size_drew] at z2
   have B2 : Below w.heap.size w w2 := Below.t b2
   have ro_ := ro.below b2
   clear ro; have ro := ro_; clear ro_
   have xc_ : Box w2 (w.heap.size) #[(.slice cA0 cn0 cc0), (.slice cA1 cn1 cc1)] 27 := xc.below b2 (by first | omega | (simp [size_drew]; done) | (simp [size_drew]; omega))
   clear xc; have xc := xc_; clear xc_
   try simp only [World.size_alloc, World.size_setCell, size_drew] at re
   rw [ewL_yes HO2.out] at re
   obtain ⟨cxc_0, cxc_1, fxc_0, fxc_1⟩ := xc.two
   have l_xc_0 : w.heap.size < w2.heap.size := by omega
   go_wp2_with fail
   clear cxc_0 cxc_1 fxc_0 fxc_1 l_xc_0
   clear xo
   have hen := Lib.hid (show en = cn0 by have := re.len; rw [vXs_len, cL0l.out] at this; exact this)
   go_loopw [6, 8] (fun v i wr => ∃ (k : Nat) (A : Option Addr) (n c l1 h1 : Nat), k ≤ cn1 ∧ i = .int .i64 k ∧ v = .slice A n c ∧ Hid (OwnL wr w1.heap.size w2.heap.size [(.slice eA en ec, .ints (vXs yL0 cL0 cL0.length))]) ∧ Hid (OwnL wr l1 h1 [(.slice A n c, .ints (genL (outF cL1 (vXs yL0 cL0 cL0.length)) k))]) ∧ (w2.heap.size ≤ l1 ∨ h1 ≤ w1.heap.size) ∧ w.heap.size + 1 ≤ l1 ∧ Hid (Box wr (w.heap.size) #[.slice cA0 cn0 cc0, .slice cA1 cn1 cc1] 27) ∧ Below w.heap.size w wr) (fun v i wr => cn1 - (intOf i).toNat)
   case atStart => exact ⟨0, _, _, _, _, _, by omega, rfl, rfl, re, ro, by omega, by omega, xc, B2⟩
   case round =>
    obtain ⟨k, vA, vn, vc, l1, h1, hk, rfl, rfl, re, ro, hdj, hl1, xc, B9⟩ := hrel
    obtain ⟨w9, hw9⟩ : ∃ x, x = wr := ⟨wr, rfl⟩
    subst hw9
    have re := re.out
    have ro := ro.out
    have xc := xc.out
    have zb_xc := xc.lt
    have r1 := ro.1
    have r2 := ro.2.1
    have r3 := re.2.1
    have hsn := Lib.hid (genL_snoc (outF cL1 (vXs yL0 cL0 cL0.length)) k)
    have hgl := Lib.hid (genL_len (outF cL1 (vXs yL0 cL0 cL0.length)) k)
    have z9 := B9.size
    by_cases hlt : k < cn1
    ·obtain ⟨m, hm, hmlt⟩ := circ_out HK.out (k := k) (by rw [cL1l.out]; exact hlt)
     have hm1 := Lib.hid hm
     have hmlt : m < cn0 := by rw [← cL0l.out]; exact hmlt
     obtain ⟨g, o, rfl, hg, hc⟩ := HO.out.block (by omega)
     have hco := hc k hlt
     clear hc
     rw [hm1.out] at hco
     clear hm
     obtain ⟨v1, v2, rfl⟩ := re.some (by rw [vXs_len, cL0l.out]; omega)
     have hem := OwnL.cellAt re m (by rw [vXs_len, cL0l.out]; exact hmlt)
     have hme : m < en := by rw [hen.out]; exact hmlt
     have hF := Lib.hid (show outF cL1 (vXs yL0 cL0 cL0.length) k = nth (vXs yL0 cL0 cL0.length) m by rw [outF, hm1.out]; rfl)
     have h9 : w9.cell? ⟨g, o + k, none⟩ = some (.int .i64 (m : Int)) := (cellB hg hco)
     have h9_l : g < w9.heap.size := by omega
     have v1l : v1 < w9.heap.size := World.block_lt_of_cell? _ _ hem
     obtain ⟨cxc_0, cxc_1, fxc_0, fxc_1⟩ := xc.two
     have l_xc_0 : w.heap.size < w9.heap.size := by omega
     go_wp2_with ((at_builtin; go_must (refine append_D rfl _ _ rfl rfl (ro.alloc _) rfl (Ints.new (g := w9.heap.size) _ [nth (vXs yL0 cL0 cL0.length) m] 3 (by simp) rfl) (by have := hgl.out; omega) ?_); intro qA qn qc qlo qhi w10 ro_ dro c10; have z10 := c10.size; (try simp only [World.size_alloc, World.size_setCell, size_drew] at z10 dro); have B10 : Below w.heap.size w w10 := Below.trans (b := _) (by repeat (with_reducible (first | assumption | exact Below.refl _ _ | refine Below.alloc ?_ (by first | omega | (simp; done) | (simp; omega)) _ | refine Below.setCell ?_ (by first | omega | (simp; done) | (simp; omega)) _ | refine Below.drew ?_ | refine below_drewN ?_ _))) (c10.below (by omega) (by first | omega | (simp [size_drew]; done) | (simp [size_drew]; omega))); clear ro; have ro := ro_; clear ro_; have re_ := (re.alloc _).away c10 (by omega); clear re; have re := re_; clear re_; have xc_ : Box w10 (w.heap.size) #[(.slice cA0 cn0 cc0), .slice (some ⟨g, o, none⟩) cn1 cc1] 27 := (xc.alloc _).chg c10 (by omega); clear xc; have xc := xc_; clear xc_; obtain ⟨kxc_0, kxc_1, gxc_0, gxc_1⟩ := xc.two; have yxc := xc.lt))
     rw [← hF.out, ← hsn.out] at ro
     go_wp2
     go_roundw
     case rel => exact ⟨k + 1, _, _, _, _, _, by omega, by go_num, rfl, re, ro, by omega, by omega, xc, B10⟩
     case measure => simp [intOf]; omega
    ·have hkn : k = cn1 := by omega
     obtain ⟨cxc_0, cxc_1, fxc_0, fxc_1⟩ := xc.two
     have l_xc_0 : w.heap.size < w9.heap.size := by omega
     go_wp2
     refine bodyPost_ret (v := .tuple #[.slice vA vn vc, .bool true]) (by simp [results, go_sem, Try.results77]) rfl ⟨_, _, _, by rw [HO2.out], ?_, ?_⟩
     ·rw [ecL_yes HO2.out, cL1l.out, ← hkn]; exact OwnL.widen ro (by omega)
     ·repeat (with_reducible (first | assumption | exact Below.refl _ _ | refine Below.alloc ?_ (by first | omega | (simp; done) | (simp; omega)) _ | refine Below.setCell ?_ (by first | omega | (simp; done) | (simp; omega)) _ | refine Below.drew ?_ | refine below_drewN ?_ _))
end Go.Proofs.Ytodnahpegecpiaa

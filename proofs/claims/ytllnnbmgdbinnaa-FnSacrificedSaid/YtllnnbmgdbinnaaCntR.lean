/- Contracts of CountPassingR. Printed by mac2.py. -/
import Derived.Test.YtllnnbmgdbinnaaSac
namespace Go.Proofs.Ytllnnbmgdbinnaa
set_option linter.unusedSimpArgs false
set_option linter.unusedVariables false
open Go.RowKit
theorem sacOk_keys {p r : Int} {al a b c d e f g h i j k l : List Int} (hk : keysOk p al = false) : sacOk p al a b c d e f g h i j k l r = false := by
  have : formOk p al a b = false := by simp [formOk, hk]
  simp [sacOk, sOpOk, form4, this]
theorem fOk_keys {p : Int} {al : List Int} (h : fOk p = false) : keysOk p al = false := by
  cases hk : keysOk p al with
  | false => rfl
  | true => rw [keys_fOk hk] at h; cases h
set_option maxRecDepth 100000 in
set_option maxHeartbeats 2000000 in
theorem sCountPassingR_L {kA1 : Option Addr} {kn1 kc1 : Nat} {kL1 : List Int} {xA0 : Option Addr} {xn0 xc0 : Nat} {xL0 : List Int} {xA1 : Option Addr} {xn1 xc1 : Nat} {xL1 : List Int} {xA2 : Option Addr} {xn2 xc2 : Nat} {xL2 : List Int} {xA3 : Option Addr} {xn3 xc3 : Nat} {xL3 : List Int} {xA4 : Option Addr} {xn4 xc4 : Nat} {xL4 : List Int} {xA5 : Option Addr} {xn5 xc5 : Nat} {xL5 : List Int} {yA0 : Option Addr} {yn0 yc0 : Nat} {yL0 : List Int} {yA1 : Option Addr} {yn1 yc1 : Nat} {yL1 : List Int} {yA2 : Option Addr} {yn2 yc2 : Nat} {yL2 : List Int} {yA3 : Option Addr} {yn3 yc3 : Nat} {yL3 : List Int} {yA4 : Option Addr} {yn4 yc4 : Nat} {yL4 : List Int} {yA5 : Option Addr} {yn5 yc5 : Nat} {yL5 : List Int} {w : World} (kI0 : Int) (kH : RdL w [((.slice kA1 kn1 kc1), .ints kL1)]) (kL1n : kL1.length ≤ 1048576) (xH : RdL w [((.slice xA0 xn0 xc0), .ints xL0), ((.slice xA1 xn1 xc1), .ints xL1), ((.slice xA2 xn2 xc2), .ints xL2), ((.slice xA3 xn3 xc3), .ints xL3), ((.slice xA4 xn4 xc4), .ints xL4), ((.slice xA5 xn5 xc5), .ints xL5)]) (xL0n : xL0.length ≤ 1048576) (xL1n : xL1.length ≤ 1048576) (xL2n : xL2.length ≤ 1048576) (xL3n : xL3.length ≤ 1048576) (xL4n : xL4.length ≤ 1048576) (xL5n : xL5.length ≤ 1048576) (yH : RdL w [((.slice yA0 yn0 yc0), .ints yL0), ((.slice yA1 yn1 yc1), .ints yL1), ((.slice yA2 yn2 yc2), .ints yL2), ((.slice yA3 yn3 yc3), .ints yL3), ((.slice yA4 yn4 yc4), .ints yL4), ((.slice yA5 yn5 yc5), .ints yL5)]) (yL0n : yL0.length ≤ 1048576) (yL1n : yL1.length ≤ 1048576) (yL2n : yL2.length ≤ 1048576) (yL3n : yL3.length ≤ 1048576) (yL4n : yL4.length ≤ 1048576) (yL5n : yL5.length ≤ 1048576) :
    Calls Try.prog 76 #[.agg #[.int .i64 kI0, (.slice kA1 kn1 kc1)], .agg #[(.slice xA0 xn0 xc0), (.slice xA1 xn1 xc1), (.slice xA2 xn2 xc2), (.slice xA3 xn3 xc3), (.slice xA4 xn4 xc4), (.slice xA5 xn5 xc5)], .agg #[(.slice yA0 yn0 yc0), (.slice yA1 yn1 yc1), (.slice yA2 yn2 yc2), (.slice yA3 yn3 yc3), (.slice yA4 yn4 yc4), (.slice yA5 yn5 yc5)]] w fun e w' => e = .returned (.int .i64 (sacCnt kI0 kL1 xL0 xL1 xL2 xL3 xL4 xL5 yL0 yL1 yL2 yL3 yL4 yL5)) ∧ Below w.heap.size w w' := by
  have kL1i : Ints w kA1 kn1 kL1 := Rd.toInts (kH ((.slice kA1 kn1 kc1), .ints kL1) (by simp))
  have kL1l := Lib.hid kL1i.len
  have kL1m : kn1 ≤ 1048576 := by rw [← kL1l.out]; exact kL1n
  have xL0i : Ints w xA0 xn0 xL0 := Rd.toInts (xH ((.slice xA0 xn0 xc0), .ints xL0) (by simp))
  have xL0l := Lib.hid xL0i.len
  have xL0m : xn0 ≤ 1048576 := by rw [← xL0l.out]; exact xL0n
  have xL1i : Ints w xA1 xn1 xL1 := Rd.toInts (xH ((.slice xA1 xn1 xc1), .ints xL1) (by simp))
  have xL1l := Lib.hid xL1i.len
  have xL1m : xn1 ≤ 1048576 := by rw [← xL1l.out]; exact xL1n
  have xL2i : Ints w xA2 xn2 xL2 := Rd.toInts (xH ((.slice xA2 xn2 xc2), .ints xL2) (by simp))
  have xL2l := Lib.hid xL2i.len
  have xL2m : xn2 ≤ 1048576 := by rw [← xL2l.out]; exact xL2n
  have xL3i : Ints w xA3 xn3 xL3 := Rd.toInts (xH ((.slice xA3 xn3 xc3), .ints xL3) (by simp))
  have xL3l := Lib.hid xL3i.len
  have xL3m : xn3 ≤ 1048576 := by rw [← xL3l.out]; exact xL3n
  have xL4i : Ints w xA4 xn4 xL4 := Rd.toInts (xH ((.slice xA4 xn4 xc4), .ints xL4) (by simp))
  have xL4l := Lib.hid xL4i.len
  have xL4m : xn4 ≤ 1048576 := by rw [← xL4l.out]; exact xL4n
  have xL5i : Ints w xA5 xn5 xL5 := Rd.toInts (xH ((.slice xA5 xn5 xc5), .ints xL5) (by simp))
  have xL5l := Lib.hid xL5i.len
  have xL5m : xn5 ≤ 1048576 := by rw [← xL5l.out]; exact xL5n
  have yL0i : Ints w yA0 yn0 yL0 := Rd.toInts (yH ((.slice yA0 yn0 yc0), .ints yL0) (by simp))
  have yL0l := Lib.hid yL0i.len
  have yL0m : yn0 ≤ 1048576 := by rw [← yL0l.out]; exact yL0n
  have yL1i : Ints w yA1 yn1 yL1 := Rd.toInts (yH ((.slice yA1 yn1 yc1), .ints yL1) (by simp))
  have yL1l := Lib.hid yL1i.len
  have yL1m : yn1 ≤ 1048576 := by rw [← yL1l.out]; exact yL1n
  have yL2i : Ints w yA2 yn2 yL2 := Rd.toInts (yH ((.slice yA2 yn2 yc2), .ints yL2) (by simp))
  have yL2l := Lib.hid yL2i.len
  have yL2m : yn2 ≤ 1048576 := by rw [← yL2l.out]; exact yL2n
  have yL3i : Ints w yA3 yn3 yL3 := Rd.toInts (yH ((.slice yA3 yn3 yc3), .ints yL3) (by simp))
  have yL3l := Lib.hid yL3i.len
  have yL3m : yn3 ≤ 1048576 := by rw [← yL3l.out]; exact yL3n
  have yL4i : Ints w yA4 yn4 yL4 := Rd.toInts (yH ((.slice yA4 yn4 yc4), .ints yL4) (by simp))
  have yL4l := Lib.hid yL4i.len
  have yL4m : yn4 ≤ 1048576 := by rw [← yL4l.out]; exact yL4n
  have yL5i : Ints w yA5 yn5 yL5 := Rd.toInts (yH ((.slice yA5 yn5 yc5), .ints yL5) (by simp))
  have yL5l := Lib.hid yL5i.len
  have yL5m : yn5 ≤ 1048576 := by rw [← yL5l.out]; exact yL5n
  have HZ : keysOk kI0 kL1 = false → sacCnt kI0 kL1 xL0 xL1 xL2 xL3 xL4 xL5 yL0 yL1 yL2 yL3 yL4 yL5 = 0 := fun h => by simp [sacCnt, h]
  have HY : fOk kI0 = true → sacCnt kI0 kL1 xL0 xL1 xL2 xL3 xL4 xL5 yL0 yL1 yL2 yL3 yL4 yL5 = ((cnt (fun r => sacOk kI0 kL1 xL0 xL1 xL2 xL3 xL4 xL5 yL0 yL1 yL2 yL3 yL4 yL5 r) kI0.toNat : Nat) : Int) := fun h => by
    unfold sacCnt; split
    · rfl
    · rename_i hk; rw [cnt_none (fun r _ => sacOk_keys (by simpa using hk))]; rfl
  cases kf : fOk kI0 with
  | false =>
    have HR := Lib.hid (HZ (fOk_keys kf))
    clear HZ HY
    by_cases hP : (0 : Int) < kI0
    · go_enter Try.func76, Try.ntmps76
      go_wp2
      refine wp_loop_rounds 1 ?_
      rw [rounds_succ]
      go_wp2_with fail
      refine (sFieldOk_any _ _).mono ?_
      rintro e w_ ⟨rfl, rfl⟩
      go_wp2
      go_ret
      exact ⟨ret_int HR.out.symm, by repeat (with_reducible (first | assumption | exact Below.refl _ _ | refine Below.alloc ?_ (by first | omega | (simp; done) | (simp; omega)) _ | refine Below.setCell ?_ (by first | omega | (simp; done) | (simp; omega)) _ | refine Below.drew ?_ | refine below_drewN ?_ _))⟩
    · go_enter Try.func76, Try.ntmps76
      go_wp2
      refine wp_loop_rounds 1 ?_
      rw [rounds_succ]
      go_wp2
      go_ret
      exact ⟨ret_int HR.out.symm, by repeat (with_reducible (first | assumption | exact Below.refl _ _ | refine Below.alloc ?_ (by first | omega | (simp; done) | (simp; omega)) _ | refine Below.setCell ?_ (by first | omega | (simp; done) | (simp; omega)) _ | refine Below.drew ?_ | refine below_drewN ?_ _))⟩
  | true =>
    have hf := kf
    have HR := Lib.hid (HY hf)
    have hb := fOk_bd hf
    obtain ⟨P, hP⟩ := Int.eq_ofNat_of_zero_le (show 0 ≤ kI0 by omega)
    have HP := Lib.hid hP
    obtain ⟨hb1, hb2⟩ := hb
    clear HZ HY hf hP
    go_enter Try.func76, Try.ntmps76
    go_wp2
    go_loopw [7, 8] (fun n r wr => ∃ k : Nat, k ≤ P ∧ r = .int .i64 k ∧ n = .int .i64 (cnt (fun r => sacOk kI0 kL1 xL0 xL1 xL2 xL3 xL4 xL5 yL0 yL1 yL2 yL3 yL4 yL5 r) k : Nat) ∧ Hid (Box wr (w.heap.size) #[.int .i64 kI0, (.slice kA1 kn1 kc1)] 33) ∧ Hid (Box wr (w.heap.size + 1) #[(.slice xA0 xn0 xc0), (.slice xA1 xn1 xc1), (.slice xA2 xn2 xc2), (.slice xA3 xn3 xc3), (.slice xA4 xn4 xc4), (.slice xA5 xn5 xc5)] 68) ∧ Hid (Box wr (w.heap.size + 1 + 1) #[(.slice yA0 yn0 yc0), (.slice yA1 yn1 yc1), (.slice yA2 yn2 yc2), (.slice yA3 yn3 yc3), (.slice yA4 yn4 yc4), (.slice yA5 yn5 yc5)] 68) ∧ Below w.heap.size w wr ∧ w.heap.size + 1 + 1 + 1 ≤ wr.heap.size) (fun _ r _ => P - (intOf r).toNat)
    case atStart => exact ⟨0, by omega, rfl, by simp [cnt], (((Box.new (g := w.heap.size) _ #[.int .i64 kI0, (.slice kA1 kn1 kc1)] 33 (by simp)).alloc _).alloc _), ((Box.new (g := w.heap.size + 1) _ #[(.slice xA0 xn0 xc0), (.slice xA1 xn1 xc1), (.slice xA2 xn2 xc2), (.slice xA3 xn3 xc3), (.slice xA4 xn4 xc4), (.slice xA5 xn5 xc5)] 68 (by simp)).alloc _), (Box.new (g := w.heap.size + 1 + 1) _ #[(.slice yA0 yn0 yc0), (.slice yA1 yn1 yc1), (.slice yA2 yn2 yc2), (.slice yA3 yn3 yc3), (.slice yA4 yn4 yc4), (.slice yA5 yn5 yc5)] 68 (by simp)), by repeat (with_reducible (first | assumption | exact Below.refl _ _ | refine Below.alloc ?_ (by first | omega | (simp; done) | (simp; omega)) _ | refine Below.setCell ?_ (by first | omega | (simp; done) | (simp; omega)) _ | refine Below.drew ?_ | refine below_drewN ?_ _)), by simp⟩
    case round =>
      obtain ⟨k, hk, rfl, rfl, Xk, Xx, Xy, hbr, hzr⟩ := hrel
      have cle := cnt_le (fun r => sacOk kI0 kL1 xL0 xL1 xL2 xL3 xL4 xL5 yL0 yL1 yL2 yL3 yL4 yL5 r) k
      obtain ⟨c0, c1, f0, f1⟩ := Xk.out.two
      obtain ⟨d0, d1, d2, d3, d4, d5, _, _, _, _, _, _⟩ := Xx.out.six
      obtain ⟨e0, e1, e2, e3, e4, e5, _, _, _, _, _, _⟩ := Xy.out.six
      by_cases hlt : (k : Int) < kI0
      · go_wp2_with fail
        refine (sFieldOk_any _ _).mono ?_
        rintro e w_ ⟨rfl, rfl⟩
        go_wp2_with fail
        refine (sSacrificeOk_L kI0 (kH.below hbr) kL1n (xH.below hbr) xL0n xL1n xL2n xL3n xL4n xL5n (yH.below hbr) yL0n yL1n yL2n yL3n yL4n yL5n (k : Int)).mono ?_
        rintro e w2 ⟨rfl, b2⟩
        have hb2 : Below w.heap.size w w2 := Below.trans hbr (b2.mono (by omega))
        have hz2 : w.heap.size + 1 + 1 + 1 ≤ w2.heap.size := by have := b2.size; omega
        have Xk2 := Lib.hid (Xk.out.below b2 (by omega))
        have Xx2 := Lib.hid (Xx.out.below b2 (by omega))
        have Xy2 := Lib.hid (Xy.out.below b2 (by omega))
        cases hs : sacOk kI0 kL1 xL0 xL1 xL2 xL3 xL4 xL5 yL0 yL1 yL2 yL3 yL4 yL5 (k : Int) with
        | true =>
          have hc := Lib.hid (cnt_up (P := fun r => sacOk kI0 kL1 xL0 xL1 xL2 xL3 xL4 xL5 yL0 yL1 yL2 yL3 yL4 yL5 r) (k := k) hs)
          clear c0 c1 f0 f1 d0 d1 d2 d3 d4 d5 e0 e1 e2 e3 e4 e5
          have hkP : (k : Int) < 1000 := by omega
          have hcl : ((cnt (fun r => sacOk kI0 kL1 xL0 xL1 xL2 xL3 xL4 xL5 yL0 yL1 yL2 yL3 yL4 yL5 r) k : Nat) : Int) < 1000 := by omega
          go_wp2
          go_roundw
          case rel => exact ⟨k + 1, by have := HP.out; omega, by go_num, by rw [hc.out]; go_num, Xk2.out, Xx2.out, Xy2.out, hb2, hz2⟩
          case measure => have := HP.out; simp [intOf]; omega
        | false =>
          have hc := Lib.hid (cnt_same (P := fun r => sacOk kI0 kL1 xL0 xL1 xL2 xL3 xL4 xL5 yL0 yL1 yL2 yL3 yL4 yL5 r) (k := k) hs)
          clear c0 c1 f0 f1 d0 d1 d2 d3 d4 d5 e0 e1 e2 e3 e4 e5
          have hkP : (k : Int) < 1000 := by omega
          have hcl : ((cnt (fun r => sacOk kI0 kL1 xL0 xL1 xL2 xL3 xL4 xL5 yL0 yL1 yL2 yL3 yL4 yL5 r) k : Nat) : Int) < 1000 := by omega
          go_wp2
          go_roundw
          case rel => exact ⟨k + 1, by have := HP.out; omega, by go_num, by rw [hc.out], Xk2.out, Xx2.out, Xy2.out, hb2, hz2⟩
          case measure => have := HP.out; simp [intOf]; omega
      · go_wp2
        go_ret
        exact ⟨ret_int (by rw [HR.out, show kI0.toNat = k by have := HP.out; omega]), hbr⟩
set_option maxRecDepth 100000 in
set_option maxHeartbeats 2000000 in
theorem iCountPassingR_L {kA1 : Option Addr} {kn1 kc1 : Nat} {kL1 : List Int} {xA0 : Option Addr} {xn0 xc0 : Nat} {xL0 : List Int} {xA1 : Option Addr} {xn1 xc1 : Nat} {xL1 : List Int} {xA2 : Option Addr} {xn2 xc2 : Nat} {xL2 : List Int} {xA3 : Option Addr} {xn3 xc3 : Nat} {xL3 : List Int} {xA4 : Option Addr} {xn4 xc4 : Nat} {xL4 : List Int} {xA5 : Option Addr} {xn5 xc5 : Nat} {xL5 : List Int} {yA0 : Option Addr} {yn0 yc0 : Nat} {yL0 : List Int} {yA1 : Option Addr} {yn1 yc1 : Nat} {yL1 : List Int} {yA2 : Option Addr} {yn2 yc2 : Nat} {yL2 : List Int} {yA3 : Option Addr} {yn3 yc3 : Nat} {yL3 : List Int} {yA4 : Option Addr} {yn4 yc4 : Nat} {yL4 : List Int} {yA5 : Option Addr} {yn5 yc5 : Nat} {yL5 : List Int} {w : World} (kI0 : Int) (kH : RdL w [((.slice kA1 kn1 kc1), .ints kL1)]) (kL1n : kL1.length ≤ 1048576) (xH : RdL w [((.slice xA0 xn0 xc0), .ints xL0), ((.slice xA1 xn1 xc1), .ints xL1), ((.slice xA2 xn2 xc2), .ints xL2), ((.slice xA3 xn3 xc3), .ints xL3), ((.slice xA4 xn4 xc4), .ints xL4), ((.slice xA5 xn5 xc5), .ints xL5)]) (xL0n : xL0.length ≤ 1048576) (xL1n : xL1.length ≤ 1048576) (xL2n : xL2.length ≤ 1048576) (xL3n : xL3.length ≤ 1048576) (xL4n : xL4.length ≤ 1048576) (xL5n : xL5.length ≤ 1048576) (yH : RdL w [((.slice yA0 yn0 yc0), .ints yL0), ((.slice yA1 yn1 yc1), .ints yL1), ((.slice yA2 yn2 yc2), .ints yL2), ((.slice yA3 yn3 yc3), .ints yL3), ((.slice yA4 yn4 yc4), .ints yL4), ((.slice yA5 yn5 yc5), .ints yL5)]) (yL0n : yL0.length ≤ 1048576) (yL1n : yL1.length ≤ 1048576) (yL2n : yL2.length ≤ 1048576) (yL3n : yL3.length ≤ 1048576) (yL4n : yL4.length ≤ 1048576) (yL5n : yL5.length ≤ 1048576) :
    Calls Try.prog 73 #[.agg #[.int .i64 kI0, (.slice kA1 kn1 kc1)], .agg #[(.slice xA0 xn0 xc0), (.slice xA1 xn1 xc1), (.slice xA2 xn2 xc2), (.slice xA3 xn3 xc3), (.slice xA4 xn4 xc4), (.slice xA5 xn5 xc5)], .agg #[(.slice yA0 yn0 yc0), (.slice yA1 yn1 yc1), (.slice yA2 yn2 yc2), (.slice yA3 yn3 yc3), (.slice yA4 yn4 yc4), (.slice yA5 yn5 yc5)]] w fun e w' => e = .returned (.int .i64 (sacCnt kI0 kL1 xL0 xL1 xL2 xL3 xL4 xL5 yL0 yL1 yL2 yL3 yL4 yL5)) ∧ Below w.heap.size w w' := by
  have kL1i : Ints w kA1 kn1 kL1 := Rd.toInts (kH ((.slice kA1 kn1 kc1), .ints kL1) (by simp))
  have kL1l := Lib.hid kL1i.len
  have kL1m : kn1 ≤ 1048576 := by rw [← kL1l.out]; exact kL1n
  have xL0i : Ints w xA0 xn0 xL0 := Rd.toInts (xH ((.slice xA0 xn0 xc0), .ints xL0) (by simp))
  have xL0l := Lib.hid xL0i.len
  have xL0m : xn0 ≤ 1048576 := by rw [← xL0l.out]; exact xL0n
  have xL1i : Ints w xA1 xn1 xL1 := Rd.toInts (xH ((.slice xA1 xn1 xc1), .ints xL1) (by simp))
  have xL1l := Lib.hid xL1i.len
  have xL1m : xn1 ≤ 1048576 := by rw [← xL1l.out]; exact xL1n
  have xL2i : Ints w xA2 xn2 xL2 := Rd.toInts (xH ((.slice xA2 xn2 xc2), .ints xL2) (by simp))
  have xL2l := Lib.hid xL2i.len
  have xL2m : xn2 ≤ 1048576 := by rw [← xL2l.out]; exact xL2n
  have xL3i : Ints w xA3 xn3 xL3 := Rd.toInts (xH ((.slice xA3 xn3 xc3), .ints xL3) (by simp))
  have xL3l := Lib.hid xL3i.len
  have xL3m : xn3 ≤ 1048576 := by rw [← xL3l.out]; exact xL3n
  have xL4i : Ints w xA4 xn4 xL4 := Rd.toInts (xH ((.slice xA4 xn4 xc4), .ints xL4) (by simp))
  have xL4l := Lib.hid xL4i.len
  have xL4m : xn4 ≤ 1048576 := by rw [← xL4l.out]; exact xL4n
  have xL5i : Ints w xA5 xn5 xL5 := Rd.toInts (xH ((.slice xA5 xn5 xc5), .ints xL5) (by simp))
  have xL5l := Lib.hid xL5i.len
  have xL5m : xn5 ≤ 1048576 := by rw [← xL5l.out]; exact xL5n
  have yL0i : Ints w yA0 yn0 yL0 := Rd.toInts (yH ((.slice yA0 yn0 yc0), .ints yL0) (by simp))
  have yL0l := Lib.hid yL0i.len
  have yL0m : yn0 ≤ 1048576 := by rw [← yL0l.out]; exact yL0n
  have yL1i : Ints w yA1 yn1 yL1 := Rd.toInts (yH ((.slice yA1 yn1 yc1), .ints yL1) (by simp))
  have yL1l := Lib.hid yL1i.len
  have yL1m : yn1 ≤ 1048576 := by rw [← yL1l.out]; exact yL1n
  have yL2i : Ints w yA2 yn2 yL2 := Rd.toInts (yH ((.slice yA2 yn2 yc2), .ints yL2) (by simp))
  have yL2l := Lib.hid yL2i.len
  have yL2m : yn2 ≤ 1048576 := by rw [← yL2l.out]; exact yL2n
  have yL3i : Ints w yA3 yn3 yL3 := Rd.toInts (yH ((.slice yA3 yn3 yc3), .ints yL3) (by simp))
  have yL3l := Lib.hid yL3i.len
  have yL3m : yn3 ≤ 1048576 := by rw [← yL3l.out]; exact yL3n
  have yL4i : Ints w yA4 yn4 yL4 := Rd.toInts (yH ((.slice yA4 yn4 yc4), .ints yL4) (by simp))
  have yL4l := Lib.hid yL4i.len
  have yL4m : yn4 ≤ 1048576 := by rw [← yL4l.out]; exact yL4n
  have yL5i : Ints w yA5 yn5 yL5 := Rd.toInts (yH ((.slice yA5 yn5 yc5), .ints yL5) (by simp))
  have yL5l := Lib.hid yL5i.len
  have yL5m : yn5 ≤ 1048576 := by rw [← yL5l.out]; exact yL5n
  have HZ : keysOk kI0 kL1 = false → sacCnt kI0 kL1 xL0 xL1 xL2 xL3 xL4 xL5 yL0 yL1 yL2 yL3 yL4 yL5 = 0 := fun h => by simp [sacCnt, h]
  have HY : fOk kI0 = true → sacCnt kI0 kL1 xL0 xL1 xL2 xL3 xL4 xL5 yL0 yL1 yL2 yL3 yL4 yL5 = ((cnt (fun r => sacOk kI0 kL1 xL0 xL1 xL2 xL3 xL4 xL5 yL0 yL1 yL2 yL3 yL4 yL5 r) kI0.toNat : Nat) : Int) := fun h => by
    unfold sacCnt; split
    · rfl
    · rename_i hk; rw [cnt_none (fun r _ => sacOk_keys (by simpa using hk))]; rfl
  cases kf : keysOk kI0 kL1 with
  | false =>
    have HR := Lib.hid (HZ kf)
    clear HZ HY
    by_cases hP : (0 : Int) < kI0
    · go_enter Try.func73, Try.ntmps73
      go_wp2
      refine wp_loop_rounds 1 ?_
      rw [rounds_succ]
      go_wp2_with fail
      refine (iKeysOk_L kI0 (RdL.b kH) kL1n).mono ?_
      rintro e w1 ⟨rfl, b1⟩
      have B1 : Below w.heap.size w w1 := Below.t b1
      go_wp2
      go_ret
      exact ⟨ret_int HR.out.symm, by repeat (with_reducible (first | assumption | exact Below.refl _ _ | refine Below.alloc ?_ (by first | omega | (simp; done) | (simp; omega)) _ | refine Below.setCell ?_ (by first | omega | (simp; done) | (simp; omega)) _ | refine Below.drew ?_ | refine below_drewN ?_ _))⟩
    · go_enter Try.func73, Try.ntmps73
      go_wp2
      refine wp_loop_rounds 1 ?_
      rw [rounds_succ]
      go_wp2
      go_ret
      exact ⟨ret_int HR.out.symm, by repeat (with_reducible (first | assumption | exact Below.refl _ _ | refine Below.alloc ?_ (by first | omega | (simp; done) | (simp; omega)) _ | refine Below.setCell ?_ (by first | omega | (simp; done) | (simp; omega)) _ | refine Below.drew ?_ | refine below_drewN ?_ _))⟩
  | true =>
    have hf := keys_fOk kf
    have HR := Lib.hid (HY hf)
    have hb := fOk_bd hf
    obtain ⟨P, hP⟩ := Int.eq_ofNat_of_zero_le (show 0 ≤ kI0 by omega)
    have HP := Lib.hid hP
    obtain ⟨hb1, hb2⟩ := hb
    clear HZ HY hf hP
    go_enter Try.func73, Try.ntmps73
    go_wp2
    go_loopw [7, 8] (fun n r wr => ∃ k : Nat, k ≤ P ∧ r = .int .i64 k ∧ n = .int .i64 (cnt (fun r => sacOk kI0 kL1 xL0 xL1 xL2 xL3 xL4 xL5 yL0 yL1 yL2 yL3 yL4 yL5 r) k : Nat) ∧ Hid (Box wr (w.heap.size) #[.int .i64 kI0, (.slice kA1 kn1 kc1)] 33) ∧ Hid (Box wr (w.heap.size + 1) #[(.slice xA0 xn0 xc0), (.slice xA1 xn1 xc1), (.slice xA2 xn2 xc2), (.slice xA3 xn3 xc3), (.slice xA4 xn4 xc4), (.slice xA5 xn5 xc5)] 68) ∧ Hid (Box wr (w.heap.size + 1 + 1) #[(.slice yA0 yn0 yc0), (.slice yA1 yn1 yc1), (.slice yA2 yn2 yc2), (.slice yA3 yn3 yc3), (.slice yA4 yn4 yc4), (.slice yA5 yn5 yc5)] 68) ∧ Below w.heap.size w wr ∧ w.heap.size + 1 + 1 + 1 ≤ wr.heap.size) (fun _ r _ => P - (intOf r).toNat)
    case atStart => exact ⟨0, by omega, rfl, by simp [cnt], (((Box.new (g := w.heap.size) _ #[.int .i64 kI0, (.slice kA1 kn1 kc1)] 33 (by simp)).alloc _).alloc _), ((Box.new (g := w.heap.size + 1) _ #[(.slice xA0 xn0 xc0), (.slice xA1 xn1 xc1), (.slice xA2 xn2 xc2), (.slice xA3 xn3 xc3), (.slice xA4 xn4 xc4), (.slice xA5 xn5 xc5)] 68 (by simp)).alloc _), (Box.new (g := w.heap.size + 1 + 1) _ #[(.slice yA0 yn0 yc0), (.slice yA1 yn1 yc1), (.slice yA2 yn2 yc2), (.slice yA3 yn3 yc3), (.slice yA4 yn4 yc4), (.slice yA5 yn5 yc5)] 68 (by simp)), by repeat (with_reducible (first | assumption | exact Below.refl _ _ | refine Below.alloc ?_ (by first | omega | (simp; done) | (simp; omega)) _ | refine Below.setCell ?_ (by first | omega | (simp; done) | (simp; omega)) _ | refine Below.drew ?_ | refine below_drewN ?_ _)), by simp⟩
    case round =>
      obtain ⟨k, hk, rfl, rfl, Xk, Xx, Xy, hbr, hzr⟩ := hrel
      have cle := cnt_le (fun r => sacOk kI0 kL1 xL0 xL1 xL2 xL3 xL4 xL5 yL0 yL1 yL2 yL3 yL4 yL5 r) k
      obtain ⟨c0, c1, f0, f1⟩ := Xk.out.two
      obtain ⟨d0, d1, d2, d3, d4, d5, _, _, _, _, _, _⟩ := Xx.out.six
      obtain ⟨e0, e1, e2, e3, e4, e5, _, _, _, _, _, _⟩ := Xy.out.six
      by_cases hlt : (k : Int) < kI0
      · go_wp2_with fail
        refine (iKeysOk_L kI0 (kH.below hbr) kL1n).mono ?_
        rintro e w1 ⟨rfl, b1⟩
        have hbr : Below w.heap.size w w1 := Below.trans hbr (b1.mono (by omega))
        have hzr : w.heap.size + 1 + 1 + 1 ≤ w1.heap.size := by have := b1.size; omega
        have Xk := Lib.hid (Xk.out.below b1 (by omega))
        have Xx := Lib.hid (Xx.out.below b1 (by omega))
        have Xy := Lib.hid (Xy.out.below b1 (by omega))
        obtain ⟨c0, c1, f0, f1⟩ := Xk.out.two
        obtain ⟨d0, d1, d2, d3, d4, d5, _, _, _, _, _, _⟩ := Xx.out.six
        obtain ⟨e0, e1, e2, e3, e4, e5, _, _, _, _, _, _⟩ := Xy.out.six
        go_wp2_with fail
        refine (iSacrificeOk_L kI0 (kH.below hbr) kL1n (xH.below hbr) xL0n xL1n xL2n xL3n xL4n xL5n (yH.below hbr) yL0n yL1n yL2n yL3n yL4n yL5n (k : Int)).mono ?_
        rintro e w2 ⟨rfl, b2⟩
        have hb2 : Below w.heap.size w w2 := Below.trans hbr (b2.mono (by omega))
        have hz2 : w.heap.size + 1 + 1 + 1 ≤ w2.heap.size := by have := b2.size; omega
        have Xk2 := Lib.hid (Xk.out.below b2 (by omega))
        have Xx2 := Lib.hid (Xx.out.below b2 (by omega))
        have Xy2 := Lib.hid (Xy.out.below b2 (by omega))
        cases hs : sacOk kI0 kL1 xL0 xL1 xL2 xL3 xL4 xL5 yL0 yL1 yL2 yL3 yL4 yL5 (k : Int) with
        | true =>
          have hc := Lib.hid (cnt_up (P := fun r => sacOk kI0 kL1 xL0 xL1 xL2 xL3 xL4 xL5 yL0 yL1 yL2 yL3 yL4 yL5 r) (k := k) hs)
          clear c0 c1 f0 f1 d0 d1 d2 d3 d4 d5 e0 e1 e2 e3 e4 e5
          have hkP : (k : Int) < 1000 := by omega
          have hcl : ((cnt (fun r => sacOk kI0 kL1 xL0 xL1 xL2 xL3 xL4 xL5 yL0 yL1 yL2 yL3 yL4 yL5 r) k : Nat) : Int) < 1000 := by omega
          go_wp2
          go_roundw
          case rel => exact ⟨k + 1, by have := HP.out; omega, by go_num, by rw [hc.out]; go_num, Xk2.out, Xx2.out, Xy2.out, hb2, hz2⟩
          case measure => have := HP.out; simp [intOf]; omega
        | false =>
          have hc := Lib.hid (cnt_same (P := fun r => sacOk kI0 kL1 xL0 xL1 xL2 xL3 xL4 xL5 yL0 yL1 yL2 yL3 yL4 yL5 r) (k := k) hs)
          clear c0 c1 f0 f1 d0 d1 d2 d3 d4 d5 e0 e1 e2 e3 e4 e5
          have hkP : (k : Int) < 1000 := by omega
          have hcl : ((cnt (fun r => sacOk kI0 kL1 xL0 xL1 xL2 xL3 xL4 xL5 yL0 yL1 yL2 yL3 yL4 yL5 r) k : Nat) : Int) < 1000 := by omega
          go_wp2
          go_roundw
          case rel => exact ⟨k + 1, by have := HP.out; omega, by go_num, by rw [hc.out], Xk2.out, Xx2.out, Xy2.out, hb2, hz2⟩
          case measure => have := HP.out; simp [intOf]; omega
      · go_wp2
        go_ret
        exact ⟨ret_int (by rw [HR.out, show kI0.toNat = k by have := HP.out; omega]), hbr⟩
end Go.Proofs.Ytllnnbmgdbinnaa

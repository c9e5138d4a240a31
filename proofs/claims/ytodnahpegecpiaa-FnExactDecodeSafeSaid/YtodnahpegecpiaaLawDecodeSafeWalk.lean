/- The walk of the law FnExactDecodeSafe. Printed by laws2.py. -/
import Derived.Test.YtodnahpegecpiaaDsf
import Derived.Test.YtodnahpegecpiaaOpenM
import Derived.Test.YtodnahpegecpiaaHk
import Derived.Test.YtodnahpegecpiaaAuto
namespace Go.Proofs.Ytodnahpegecpiaa
set_option linter.unusedSimpArgs false
set_option linter.unusedVariables false
open Go.RowKit
set_option maxRecDepth 100000 in
set_option maxHeartbeats 2000000 in
theorem walk_FnExactDecodeSafe (hL0V : Value) (hL0 : List (List Int)) (yL0V : Value) (yL0 : List Int) (w : World) (hL0h : RdGr0 w hL0V hL0) (yL0h : Rd0 w yL0V yL0) :
    Calls Try.prog 7 #[hL0V, yL0V] w fun e w' => e = .returned (.bool true) ∧ Below w.heap.size w w' := by
  obtain ⟨hA0, hn0, hc0, rfl, -⟩ := hL0h.form
  obtain ⟨yA0, yn0, yc0, rfl, yL0x, yL0I⟩ := yL0h
  have yL0h : Rd0 w (.slice yA0 yn0 yc0) yL0 := ⟨_, _, _, rfl, yL0x, yL0I⟩
  by_cases yL0b : (1048576 : Int) < yn0
  · go_enter Try.func7, Try.ntmps7
    go_wp2
    go_ret
    refine ⟨rfl, ?_⟩
    repeat (first | exact Below.refl _ _ | refine Below.alloc ?_ (by first | omega | (simp; done) | (simp; omega)) _ | refine Below.setCell ?_ (by first | omega | (simp; done) | (simp; omega)) _ | refine Below.drew ?_ | refine below_drewN ?_ _ | refine Below.trans ?_ (hb30.mono (by first | omega | (simp; done) | (simp; omega))) | refine Below.trans ?_ (hb29.mono (by first | omega | (simp; done) | (simp; omega))) | refine Below.trans ?_ (hb28.mono (by first | omega | (simp; done) | (simp; omega))) | refine Below.trans ?_ (hb27.mono (by first | omega | (simp; done) | (simp; omega))) | refine Below.trans ?_ (hb26.mono (by first | omega | (simp; done) | (simp; omega))) | refine Below.trans ?_ (hb25.mono (by first | omega | (simp; done) | (simp; omega))) | refine Below.trans ?_ (hb24.mono (by first | omega | (simp; done) | (simp; omega))) | refine Below.trans ?_ (hb23.mono (by first | omega | (simp; done) | (simp; omega))) | refine Below.trans ?_ (hb22.mono (by first | omega | (simp; done) | (simp; omega))) | refine Below.trans ?_ (hb21.mono (by first | omega | (simp; done) | (simp; omega))) | refine Below.trans ?_ (hb20.mono (by first | omega | (simp; done) | (simp; omega))) | refine Below.trans ?_ (hb19.mono (by first | omega | (simp; done) | (simp; omega))) | refine Below.trans ?_ (hb18.mono (by first | omega | (simp; done) | (simp; omega))) | refine Below.trans ?_ (hb17.mono (by first | omega | (simp; done) | (simp; omega))) | refine Below.trans ?_ (hb16.mono (by first | omega | (simp; done) | (simp; omega))) | refine Below.trans ?_ (hb15.mono (by first | omega | (simp; done) | (simp; omega))) | refine Below.trans ?_ (hb14.mono (by first | omega | (simp; done) | (simp; omega))) | refine Below.trans ?_ (hb13.mono (by first | omega | (simp; done) | (simp; omega))) | refine Below.trans ?_ (hb12.mono (by first | omega | (simp; done) | (simp; omega))) | refine Below.trans ?_ (hb11.mono (by first | omega | (simp; done) | (simp; omega))) | refine Below.trans ?_ (hb10.mono (by first | omega | (simp; done) | (simp; omega))) | refine Below.trans ?_ (hb9.mono (by first | omega | (simp; done) | (simp; omega))) | refine Below.trans ?_ (hb8.mono (by first | omega | (simp; done) | (simp; omega))) | refine Below.trans ?_ (hb7.mono (by first | omega | (simp; done) | (simp; omega))) | refine Below.trans ?_ (hb6.mono (by first | omega | (simp; done) | (simp; omega))) | refine Below.trans ?_ (hb5.mono (by first | omega | (simp; done) | (simp; omega))) | refine Below.trans ?_ (hb4.mono (by first | omega | (simp; done) | (simp; omega))) | refine Below.trans ?_ (hb3.mono (by first | omega | (simp; done) | (simp; omega))) | refine Below.trans ?_ (hb2.mono (by first | omega | (simp; done) | (simp; omega))) | refine Below.trans ?_ (hb1.mono (by first | omega | (simp; done) | (simp; omega))))
  · skip
    have yL0n : yL0.length ≤ 1048576 := by rw [yL0I.len]; omega
    by_cases sz0 : (totLL hL0) ≤ 1048576
    · skip
      have hL0n : totLL hL0 ≤ 1048576 := by omega
      have hL0s := totLL_sum hL0n
      have rL0_0n : (dsO hL0 yL0).length ≤ 1048576 := Nat.le_trans (dsO_len _ _) yL0n
      go_enter Try.func7, Try.ntmps7
      go_wp2_with fail
      refine (szIntSS_yes hL0h.b (1048576) _ (by first | rfl | simp) (by omega) (by omega)).mono ?_
      rintro e w1 ⟨rfl, b1⟩
      have z1 := b1.size
      try simp only [World.size_alloc, World.size_setCell, size_drew] at z1
      have B1 : Below w.heap.size w w1 := Below.t b1
      go_wp2_with fail
      refine (toIntSS_L hL0h.rd.b hL0n).mono ?_
      rintro e w2 ⟨shA0, shn0, shc0, rfl, rsh, b2⟩
      have z2 := b2.size
      try simp only [World.size_alloc, World.size_setCell, size_drew] at z2
      have B2 : Below w.heap.size w w2 := Below.t b2
      try simp only [World.size_alloc, World.size_setCell, size_drew] at rsh
      go_wp2_with fail
      refine (toIntS_L (RdL.cons (d := .ints yL0) yL0h.rd.b RdL.nil) yL0n).mono ?_
      rintro e w3 ⟨syA0, syn0, syc0, rfl, rsy, b3⟩
      have z3 := b3.size
      try simp only [World.size_alloc, World.size_setCell, size_drew] at z3
      have B3 : Below w.heap.size w w3 := Below.t b3
      have rsh_ := rsh.below b3
      clear rsh; have rsh := rsh_; clear rsh_
      try simp only [World.size_alloc, World.size_setCell, size_drew] at rsy
      go_wp2_with fail
      refine (sDecodeSafe_L rsh.rd hL0n rsy.rd yL0n).mono ?_
      rintro e w4 ⟨w0A0, w0n0, w0c0, rfl, rw0, b4⟩
      have z4 := b4.size
      try simp only [World.size_alloc, World.size_setCell, size_drew] at z4
      have B4 : Below w.heap.size w w4 := Below.t b4
      have rsh_ := rsh.below b4
      clear rsh; have rsh := rsh_; clear rsh_
      have rsy_ := rsy.below b4
      clear rsy; have rsy := rsy_; clear rsy_
      try simp only [World.size_alloc, World.size_setCell, size_drew] at rw0
      go_wp2_with fail
      refine (toIntSS_L hL0h.rd.b hL0n).mono ?_
      rintro e w5 ⟨xhA0, xhn0, xhc0, rfl, rxh, b5⟩
      have z5 := b5.size
      try simp only [World.size_alloc, World.size_setCell, size_drew] at z5
      have B5 : Below w.heap.size w w5 := Below.t b5
      have rw0_ := rw0.below b5
      clear rw0; have rw0 := rw0_; clear rw0_
      try simp only [World.size_alloc, World.size_setCell, size_drew] at rxh
      go_wp2_with fail
      refine (toIntS_L (RdL.cons (d := .ints yL0) yL0h.rd.b RdL.nil) yL0n).mono ?_
      rintro e w6 ⟨xyA0, xyn0, xyc0, rfl, rxy, b6⟩
      have z6 := b6.size
      try simp only [World.size_alloc, World.size_setCell, size_drew] at z6
      have B6 : Below w.heap.size w w6 := Below.t b6
      have rw0_ := rw0.below b6
      clear rw0; have rw0 := rw0_; clear rw0_
      have rxh_ := rxh.below b6
      clear rxh; have rxh := rxh_; clear rxh_
      try simp only [World.size_alloc, World.size_setCell, size_drew] at rxy
      go_wp2_with fail
      refine (iDecodeSafe_L rxh.rd hL0n rxy.rd yL0n).mono ?_
      rintro e w7 ⟨g0A0, g0n0, g0c0, rfl, rg0, b7⟩
      have z7 := b7.size
      try simp only [World.size_alloc, World.size_setCell, size_drew] at z7
      have B7 : Below w.heap.size w w7 := Below.t b7
      have rw0_ := rw0.below b7
      clear rw0; have rw0 := rw0_; clear rw0_
      have rxh_ := rxh.below b7
      clear rxh; have rxh := rxh_; clear rxh_
      have rxy_ := rxy.below b7
      clear rxy; have rxy := rxy_; clear rxy_
      try simp only [World.size_alloc, World.size_setCell, size_drew] at rg0
      go_wp2_with fail
      refine (eqIntS_L rg0.rd rw0.rd rL0_0n).mono ?_
      rintro e w8 ⟨rfl, b8⟩
      have z8 := b8.size
      try simp only [World.size_alloc, World.size_setCell, size_drew] at z8
      have B8 : Below w.heap.size w w8 := Below.t b8
      have rw0_ := rw0.below b8
      clear rw0; have rw0 := rw0_; clear rw0_
      have rxh_ := rxh.below b8
      clear rxh; have rxh := rxh_; clear rxh_
      have rxy_ := rxy.below b8
      clear rxy; have rxy := rxy_; clear rxy_
      have rg0_ := rg0.below b8
      clear rg0; have rg0 := rg0_; clear rg0_
      go_wp2_with fail
      refine (toIntSS_L hL0h.rd.b hL0n).mono ?_
      rintro e w9 ⟨zhA0, zhn0, zhc0, rfl, rzh, b9⟩
      have z9 := b9.size
      try simp only [World.size_alloc, World.size_setCell, size_drew] at z9
      have B9 : Below w.heap.size w w9 := Below.t b9
      have rw0_ := rw0.below b9
      clear rw0; have rw0 := rw0_; clear rw0_
      have rxh_ := rxh.below b9
      clear rxh; have rxh := rxh_; clear rxh_
      have rxy_ := rxy.below b9
      clear rxy; have rxy := rxy_; clear rxy_
      have rg0_ := rg0.below b9
      clear rg0; have rg0 := rg0_; clear rg0_
      try simp only [World.size_alloc, World.size_setCell, size_drew] at rzh
      go_wp2_with fail
      refine (eqIntSS_L rxh.rd rzh.rd hL0n).mono ?_
      rintro e w10 ⟨rfl, b10⟩
      have z10 := b10.size
      try simp only [World.size_alloc, World.size_setCell, size_drew] at z10
      have B10 : Below w.heap.size w w10 := Below.t b10
      have rw0_ := rw0.below b10
      clear rw0; have rw0 := rw0_; clear rw0_
      have rxh_ := rxh.below b10
      clear rxh; have rxh := rxh_; clear rxh_
      have rxy_ := rxy.below b10
      clear rxy; have rxy := rxy_; clear rxy_
      have rg0_ := rg0.below b10
      clear rg0; have rg0 := rg0_; clear rg0_
      have rzh_ := rzh.below b10
      clear rzh; have rzh := rzh_; clear rzh_
      go_wp2_with fail
      refine (toIntS_L (RdL.cons (d := .ints yL0) yL0h.rd.b RdL.nil) yL0n).mono ?_
      rintro e w11 ⟨zyA0, zyn0, zyc0, rfl, rzy, b11⟩
      have z11 := b11.size
      try simp only [World.size_alloc, World.size_setCell, size_drew] at z11
      have B11 : Below w.heap.size w w11 := Below.t b11
      have rw0_ := rw0.below b11
      clear rw0; have rw0 := rw0_; clear rw0_
      have rxh_ := rxh.below b11
      clear rxh; have rxh := rxh_; clear rxh_
      have rxy_ := rxy.below b11
      clear rxy; have rxy := rxy_; clear rxy_
      have rg0_ := rg0.below b11
      clear rg0; have rg0 := rg0_; clear rg0_
      try simp only [World.size_alloc, World.size_setCell, size_drew] at rzy
      go_wp2_with fail
      refine (eqIntS_L rxy.rd rzy.rd yL0n).mono ?_
      rintro e w12 ⟨rfl, b12⟩
      have z12 := b12.size
      try simp only [World.size_alloc, World.size_setCell, size_drew] at z12
      have B12 : Below w.heap.size w w12 := Below.t b12
      have rw0_ := rw0.below b12
      clear rw0; have rw0 := rw0_; clear rw0_
      have rxh_ := rxh.below b12
      clear rxh; have rxh := rxh_; clear rxh_
      have rxy_ := rxy.below b12
      clear rxy; have rxy := rxy_; clear rxy_
      have rg0_ := rg0.below b12
      clear rg0; have rg0 := rg0_; clear rg0_
      have rzy_ := rzy.below b12
      clear rzy; have rzy := rzy_; clear rzy_
      go_wp2_with fail
      refine (markIntSS_L (1) _ rxh (by first | omega | (simp [size_drew]; done) | (simp [size_drew]; omega)) (by omega) hL0n).mono ?_
      rintro e w13 ⟨rfl, rxh, c13⟩
      have z13 := c13.size
      try simp only [World.size_alloc, World.size_setCell, size_drew] at z13
      have rw0_ := rw0.away c13 (by omega)
      clear rw0; have rw0 := rw0_; clear rw0_
      have rxy_ := rxy.away c13 (by omega)
      clear rxy; have rxy := rxy_; clear rxy_
      have rg0_ := rg0.away c13 (by omega)
      clear rg0; have rg0 := rg0_; clear rg0_
      have B13 : Below w.heap.size w w13 := B12.trans (c13.below (by omega) (by omega))
      go_wp2_with fail
      refine (markIntS_L (pre := []) (post := []) (1 + (sumLen (hL0) (hL0).length)) _ rxy (by first | omega | (simp [size_drew]; done) | (simp [size_drew]; omega)) (by omega) yL0n).mono ?_
      rintro e w14 ⟨rfl, rxy, c14⟩
      have z14 := c14.size
      try simp only [World.size_alloc, World.size_setCell, size_drew] at z14
      have rw0_ := rw0.away c14 (by omega)
      clear rw0; have rw0 := rw0_; clear rw0_
      have rg0_ := rg0.away c14 (by omega)
      clear rg0; have rg0 := rg0_; clear rg0_
      have rxh_ := rxh.away c14 (by omega)
      clear rxh; have rxh := rxh_; clear rxh_
      have B14 : Below w.heap.size w w14 := B13.trans (c14.below (by omega) (by omega))
      go_wp2_with fail
      refine (eqIntS_L rg0.rd rw0.rd rL0_0n).mono ?_
      rintro e w15 ⟨rfl, b15⟩
      have z15 := b15.size
      try simp only [World.size_alloc, World.size_setCell, size_drew] at z15
      have B15 : Below w.heap.size w w15 := Below.t b15
      have rw0_ := rw0.below b15
      clear rw0; have rw0 := rw0_; clear rw0_
      have rg0_ := rg0.below b15
      clear rg0; have rg0 := rg0_; clear rg0_
      have rxh_ := rxh.below b15
      clear rxh; have rxh := rxh_; clear rxh_
      have rxy_ := rxy.below b15
      clear rxy; have rxy := rxy_; clear rxy_
      go_wp2_with fail
      refine (markIntS_L (pre := []) (post := []) (1) _ rg0 (by first | omega | (simp [size_drew]; done) | (simp [size_drew]; omega)) (by omega) rL0_0n).mono ?_
      rintro e w16 ⟨rfl, rg0, c16⟩
      have z16 := c16.size
      try simp only [World.size_alloc, World.size_setCell, size_drew] at z16
      have rw0_ := rw0.away c16 (by omega)
      clear rw0; have rw0 := rw0_; clear rw0_
      have B16 : Below w.heap.size w w16 := B15.trans (c16.below (by omega) (by omega))
      go_wp2_with fail
      refine (heldIntS_L (dsO hL0 yL0).length (1) _ rg0.rd (by first | omega | (simp [size_drew]; done) | (simp [size_drew]; omega)) (by omega) rL0_0n).mono ?_
      rintro e w_ ⟨rfl, rfl⟩
      go_wp2_with fail
      refine (toIntSS_L hL0h.rd.b hL0n).mono ?_
      rintro e w17 ⟨thA0, thn0, thc0, rfl, rth, b17⟩
      have z17 := b17.size
      try simp only [World.size_alloc, World.size_setCell, size_drew] at z17
      have B17 : Below w.heap.size w w17 := Below.t b17
      have rw0_ := rw0.below b17
      clear rw0; have rw0 := rw0_; clear rw0_
      have rg0_ := rg0.below b17
      clear rg0; have rg0 := rg0_; clear rg0_
      try simp only [World.size_alloc, World.size_setCell, size_drew] at rth
      go_wp2_with fail
      refine (toIntS_L (RdL.cons (d := .ints yL0) yL0h.rd.b RdL.nil) yL0n).mono ?_
      rintro e w18 ⟨tyA0, tyn0, tyc0, rfl, rty, b18⟩
      have z18 := b18.size
      try simp only [World.size_alloc, World.size_setCell, size_drew] at z18
      have B18 : Below w.heap.size w w18 := Below.t b18
      have rw0_ := rw0.below b18
      clear rw0; have rw0 := rw0_; clear rw0_
      have rg0_ := rg0.below b18
      clear rg0; have rg0 := rg0_; clear rg0_
      have rth_ := rth.below b18
      clear rth; have rth := rth_; clear rth_
      try simp only [World.size_alloc, World.size_setCell, size_drew] at rty
      go_wp2_with fail
      refine (iDecodeSafe_L rth.rd hL0n rty.rd yL0n).mono ?_
      rintro e w19 ⟨h0A0, h0n0, h0c0, rfl, rh0, b19⟩
      have z19 := b19.size
      try simp only [World.size_alloc, World.size_setCell, size_drew] at z19
      have B19 : Below w.heap.size w w19 := Below.t b19
      have rw0_ := rw0.below b19
      clear rw0; have rw0 := rw0_; clear rw0_
      have rg0_ := rg0.below b19
      clear rg0; have rg0 := rg0_; clear rg0_
      have rth_ := rth.below b19
      clear rth; have rth := rth_; clear rth_
      have rty_ := rty.below b19
      clear rty; have rty := rty_; clear rty_
      try simp only [World.size_alloc, World.size_setCell, size_drew] at rh0
      go_wp2_with fail
      refine (eqIntS_L rh0.rd rw0.rd rL0_0n).mono ?_
      rintro e w20 ⟨rfl, b20⟩
      have z20 := b20.size
      try simp only [World.size_alloc, World.size_setCell, size_drew] at z20
      have B20 : Below w.heap.size w w20 := Below.t b20
      have rw0_ := rw0.below b20
      clear rw0; have rw0 := rw0_; clear rw0_
      have rg0_ := rg0.below b20
      clear rg0; have rg0 := rg0_; clear rg0_
      have rh0_ := rh0.below b20
      clear rh0; have rh0 := rh0_; clear rh0_
      go_wp2_with fail
      refine (heldIntS_L (dsO hL0 yL0).length (1) _ rg0.rd (by first | omega | (simp [size_drew]; done) | (simp [size_drew]; omega)) (by omega) rL0_0n).mono ?_
      rintro e w_ ⟨rfl, rfl⟩
      go_wp2_with fail
      go_ret
      exact ⟨rfl, B20⟩
    · skip
      go_enter Try.func7, Try.ntmps7
      go_wp2_with fail
      refine (szIntSS_no hL0h.b (1048576) _ (by first | rfl | simp) (by omega) (by omega)).mono ?_
      rintro e w1 ⟨rfl, b1⟩
      have z1 := b1.size
      try simp only [World.size_alloc, World.size_setCell, size_drew] at z1
      have B1 : Below w.heap.size w w1 := Below.t b1
      go_wp2
      go_ret
      exact ⟨rfl, B1⟩
end Go.Proofs.Ytodnahpegecpiaa

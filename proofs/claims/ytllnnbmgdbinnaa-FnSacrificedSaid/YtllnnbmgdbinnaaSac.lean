/- Contracts of SacrificeOpen, SacrificeOk. Printed by mac2.py. -/
import Derived.Test.YtllnnbmgdbinnaaTri0
namespace Go.Proofs.Ytllnnbmgdbinnaa
set_option linter.unusedSimpArgs false
set_option linter.unusedVariables false
open Go.RowKit
set_option maxRecDepth 100000 in
set_option maxHeartbeats 2000000 in
theorem sSacrificeOpen_L {kA1 : Option Addr} {kn1 kc1 : Nat} {kL1 : List Int} {xA0 : Option Addr} {xn0 xc0 : Nat} {xL0 : List Int} {xA1 : Option Addr} {xn1 xc1 : Nat} {xL1 : List Int} {xA2 : Option Addr} {xn2 xc2 : Nat} {xL2 : List Int} {xA3 : Option Addr} {xn3 xc3 : Nat} {xL3 : List Int} {xA4 : Option Addr} {xn4 xc4 : Nat} {xL4 : List Int} {xA5 : Option Addr} {xn5 xc5 : Nat} {xL5 : List Int} {yA0 : Option Addr} {yn0 yc0 : Nat} {yL0 : List Int} {yA1 : Option Addr} {yn1 yc1 : Nat} {yL1 : List Int} {yA2 : Option Addr} {yn2 yc2 : Nat} {yL2 : List Int} {yA3 : Option Addr} {yn3 yc3 : Nat} {yL3 : List Int} {yA4 : Option Addr} {yn4 yc4 : Nat} {yL4 : List Int} {yA5 : Option Addr} {yn5 yc5 : Nat} {yL5 : List Int} {w : World} (kI0 : Int) (kH : RdL w [((.slice kA1 kn1 kc1), .ints kL1)]) (kL1n : kL1.length ≤ 1048576) (xH : RdL w [((.slice xA0 xn0 xc0), .ints xL0), ((.slice xA1 xn1 xc1), .ints xL1), ((.slice xA2 xn2 xc2), .ints xL2), ((.slice xA3 xn3 xc3), .ints xL3), ((.slice xA4 xn4 xc4), .ints xL4), ((.slice xA5 xn5 xc5), .ints xL5)]) (xL0n : xL0.length ≤ 1048576) (xL1n : xL1.length ≤ 1048576) (xL2n : xL2.length ≤ 1048576) (xL3n : xL3.length ≤ 1048576) (xL4n : xL4.length ≤ 1048576) (xL5n : xL5.length ≤ 1048576) (yH : RdL w [((.slice yA0 yn0 yc0), .ints yL0), ((.slice yA1 yn1 yc1), .ints yL1), ((.slice yA2 yn2 yc2), .ints yL2), ((.slice yA3 yn3 yc3), .ints yL3), ((.slice yA4 yn4 yc4), .ints yL4), ((.slice yA5 yn5 yc5), .ints yL5)]) (yL0n : yL0.length ≤ 1048576) (yL1n : yL1.length ≤ 1048576) (yL2n : yL2.length ≤ 1048576) (yL3n : yL3.length ≤ 1048576) (yL4n : yL4.length ≤ 1048576) (yL5n : yL5.length ≤ 1048576) (rI0 : Int) :
    Calls Try.prog 66 #[.agg #[.int .i64 kI0, (.slice kA1 kn1 kc1)], .agg #[(.slice xA0 xn0 xc0), (.slice xA1 xn1 xc1), (.slice xA2 xn2 xc2), (.slice xA3 xn3 xc3), (.slice xA4 xn4 xc4), (.slice xA5 xn5 xc5)], .agg #[(.slice yA0 yn0 yc0), (.slice yA1 yn1 yc1), (.slice yA2 yn2 yc2), (.slice yA3 yn3 yc3), (.slice yA4 yn4 yc4), (.slice yA5 yn5 yc5)], .int .i64 rI0] w fun e w' => e = .returned (.tuple #[.agg #[.int .i64 (soD kI0 kL1 xL0 xL1 xL2 xL3 yL0 yL1 yL2 yL3 rI0), .int .i64 (soE kI0 kL1 xL0 xL1 xL2 xL3 yL0 yL1 yL2 yL3 rI0)], .bool (sOpOk kI0 kL1 xL0 xL1 xL2 xL3 yL0 yL1 yL2 yL3 rI0)]) ∧ Below w.heap.size w w' := by
  have kL1i : Ints w kA1 kn1 kL1 := Rd.toInts (kH ((.slice kA1 kn1 kc1), .ints kL1) (by simp))
  have kL1l := Lib.hid kL1i.len
  have kL1m : kn1 ≤ 1048576 := by rw [← kL1l.out]; exact kL1n
  have xL0i : Ints w xA0 xn0 xL0 := Rd.toInts (xH ((.slice xA0 xn0 xc0), .ints xL0) (by simp))
  have xL0l := Lib.hid xL0i.len
  have xL0m : xn0 ≤ 1048576 := by rw [← xL0l.out]; exact xL0n
  have xL1i : Ints w xA1 xn1 xL1 := Rd.toInts (xH ((.slice xA1 xn1 xc1), .ints xL1) (by simp))
  have xL1l := Lib.hid xL1i.len
  have xL1m : xn1 ≤ 1048576 := by rw [← xL1l.out]; exact xL1n
  have xL2i : Ints w xA2 xn2 xL2 := Rd.toInts (xH ((.slice xA2 xn2 xc2), .ints xL2) (by simp))
  have xL2l := Lib.hid xL2i.len
  have xL2m : xn2 ≤ 1048576 := by rw [← xL2l.out]; exact xL2n
  have xL3i : Ints w xA3 xn3 xL3 := Rd.toInts (xH ((.slice xA3 xn3 xc3), .ints xL3) (by simp))
  have xL3l := Lib.hid xL3i.len
  have xL3m : xn3 ≤ 1048576 := by rw [← xL3l.out]; exact xL3n
  have xL4i : Ints w xA4 xn4 xL4 := Rd.toInts (xH ((.slice xA4 xn4 xc4), .ints xL4) (by simp))
  have xL4l := Lib.hid xL4i.len
  have xL4m : xn4 ≤ 1048576 := by rw [← xL4l.out]; exact xL4n
  have xL5i : Ints w xA5 xn5 xL5 := Rd.toInts (xH ((.slice xA5 xn5 xc5), .ints xL5) (by simp))
  have xL5l := Lib.hid xL5i.len
  have xL5m : xn5 ≤ 1048576 := by rw [← xL5l.out]; exact xL5n
  have yL0i : Ints w yA0 yn0 yL0 := Rd.toInts (yH ((.slice yA0 yn0 yc0), .ints yL0) (by simp))
  have yL0l := Lib.hid yL0i.len
  have yL0m : yn0 ≤ 1048576 := by rw [← yL0l.out]; exact yL0n
  have yL1i : Ints w yA1 yn1 yL1 := Rd.toInts (yH ((.slice yA1 yn1 yc1), .ints yL1) (by simp))
  have yL1l := Lib.hid yL1i.len
  have yL1m : yn1 ≤ 1048576 := by rw [← yL1l.out]; exact yL1n
  have yL2i : Ints w yA2 yn2 yL2 := Rd.toInts (yH ((.slice yA2 yn2 yc2), .ints yL2) (by simp))
  have yL2l := Lib.hid yL2i.len
  have yL2m : yn2 ≤ 1048576 := by rw [← yL2l.out]; exact yL2n
  have yL3i : Ints w yA3 yn3 yL3 := Rd.toInts (yH ((.slice yA3 yn3 yc3), .ints yL3) (by simp))
  have yL3l := Lib.hid yL3i.len
  have yL3m : yn3 ≤ 1048576 := by rw [← yL3l.out]; exact yL3n
  have yL4i : Ints w yA4 yn4 yL4 := Rd.toInts (yH ((.slice yA4 yn4 yc4), .ints yL4) (by simp))
  have yL4l := Lib.hid yL4i.len
  have yL4m : yn4 ≤ 1048576 := by rw [← yL4l.out]; exact yL4n
  have yL5i : Ints w yA5 yn5 yL5 := Rd.toInts (yH ((.slice yA5 yn5 yc5), .ints yL5) (by simp))
  have yL5l := Lib.hid yL5i.len
  have yL5m : yn5 ≤ 1048576 := by rw [← yL5l.out]; exact yL5n
  cases k1 : formOk kI0 kL1 xL0 xL1 with
  | false =>
    have HO : sOpOk kI0 kL1 xL0 xL1 xL2 xL3 yL0 yL1 yL2 yL3 rI0 = false := by simp [sOpOk, form4, k1]
    go_enter Try.func66, Try.ntmps66
    go_wp2_with fail
    refine (sl23Form_L kI0 (RdL.b kH) kL1n (RdL.b (ls := [((.slice xA0 xn0 xc0), .ints xL0), ((.slice xA1 xn1 xc1), .ints xL1)]) (RdL.sub xH (by simp))) xL0n xL1n).mono ?_
    rintro e w1 ⟨rfl, b1⟩
    have z1 := b1.size
    try simp only [World.size_alloc, World.size_setCell, size_drew] at z1
    have B1 : Below w.heap.size w w1 := Below.t b1
    have xk_ : Box w1 (w.heap.size) #[.int .i64 kI0, (.slice kA1 kn1 kc1)] 33 := ((((Box.new (g := w.heap.size) _ #[.int .i64 kI0, (.slice kA1 kn1 kc1)] 33 (by simp)).alloc _).alloc _).alloc _).below b1 (by first | omega | (simp [size_drew]; done) | (simp [size_drew]; omega))
    have xk := xk_; clear xk_
    have xx_ : Box w1 (w.heap.size + 1) #[(.slice xA0 xn0 xc0), (.slice xA1 xn1 xc1), (.slice xA2 xn2 xc2), (.slice xA3 xn3 xc3), (.slice xA4 xn4 xc4), (.slice xA5 xn5 xc5)] 68 := (((Box.new (g := w.heap.size + 1) _ #[(.slice xA0 xn0 xc0), (.slice xA1 xn1 xc1), (.slice xA2 xn2 xc2), (.slice xA3 xn3 xc3), (.slice xA4 xn4 xc4), (.slice xA5 xn5 xc5)] 68 (by simp)).alloc _).alloc _).below b1 (by first | omega | (simp [size_drew]; done) | (simp [size_drew]; omega))
    have xx := xx_; clear xx_
    have xy_ : Box w1 (w.heap.size + 1 + 1) #[(.slice yA0 yn0 yc0), (.slice yA1 yn1 yc1), (.slice yA2 yn2 yc2), (.slice yA3 yn3 yc3), (.slice yA4 yn4 yc4), (.slice yA5 yn5 yc5)] 68 := ((Box.new (g := w.heap.size + 1 + 1) _ #[(.slice yA0 yn0 yc0), (.slice yA1 yn1 yc1), (.slice yA2 yn2 yc2), (.slice yA3 yn3 yc3), (.slice yA4 yn4 yc4), (.slice yA5 yn5 yc5)] 68 (by simp)).alloc _).below b1 (by first | omega | (simp [size_drew]; done) | (simp [size_drew]; omega))
    have xy := xy_; clear xy_
    have xr_ : Box w1 (w.heap.size + 1 + 1 + 1) #[.int .i64 0, .int .i64 0] 73 := (Box.new (g := w.heap.size + 1 + 1 + 1) _ #[.int .i64 0, .int .i64 0] 73 (by simp)).below b1 (by first | omega | (simp [size_drew]; done) | (simp [size_drew]; omega))
    have xr := xr_; clear xr_
    obtain ⟨cxr_0, cxr_1, fxr_0, fxr_1⟩ := xr.two
    have l_xr_0 : w.heap.size + 1 + 1 + 1 < w1.heap.size := by omega
    go_wp2
    refine bodyPost_ret (v := .tuple #[.agg #[.int .i64 (0), .int .i64 (0)], .bool false]) ?_ rfl ⟨by rw [soD_no HO, soE_no HO, HO], ?_⟩
    · simp [results, Try.results66, go_sem, cxr_0, cxr_1, fxr_0, fxr_1, l_xr_0]
    · repeat (with_reducible (first | assumption | exact Below.refl _ _ | refine Below.alloc ?_ (by first | omega | (simp; done) | (simp; omega)) _ | refine Below.setCell ?_ (by first | omega | (simp; done) | (simp; omega)) _ | refine Below.drew ?_ | refine below_drewN ?_ _))
  | true =>
    cases k2 : formOk kI0 kL1 xL2 xL3 with
    | false =>
      have HO : sOpOk kI0 kL1 xL0 xL1 xL2 xL3 yL0 yL1 yL2 yL3 rI0 = false := by simp [sOpOk, form4, k1, k2]
      go_enter Try.func66, Try.ntmps66
      go_wp2_with fail
      refine (sl23Form_L kI0 (RdL.b kH) kL1n (RdL.b (ls := [((.slice xA0 xn0 xc0), .ints xL0), ((.slice xA1 xn1 xc1), .ints xL1)]) (RdL.sub xH (by simp))) xL0n xL1n).mono ?_
      rintro e w1 ⟨rfl, b1⟩
      have z1 := b1.size
      try simp only [World.size_alloc, World.size_setCell, size_drew] at z1
      have B1 : Below w.heap.size w w1 := Below.t b1
      have xk_ : Box w1 (w.heap.size) #[.int .i64 kI0, (.slice kA1 kn1 kc1)] 33 := ((((Box.new (g := w.heap.size) _ #[.int .i64 kI0, (.slice kA1 kn1 kc1)] 33 (by simp)).alloc _).alloc _).alloc _).below b1 (by first | omega | (simp [size_drew]; done) | (simp [size_drew]; omega))
      have xk := xk_; clear xk_
      have xx_ : Box w1 (w.heap.size + 1) #[(.slice xA0 xn0 xc0), (.slice xA1 xn1 xc1), (.slice xA2 xn2 xc2), (.slice xA3 xn3 xc3), (.slice xA4 xn4 xc4), (.slice xA5 xn5 xc5)] 68 := (((Box.new (g := w.heap.size + 1) _ #[(.slice xA0 xn0 xc0), (.slice xA1 xn1 xc1), (.slice xA2 xn2 xc2), (.slice xA3 xn3 xc3), (.slice xA4 xn4 xc4), (.slice xA5 xn5 xc5)] 68 (by simp)).alloc _).alloc _).below b1 (by first | omega | (simp [size_drew]; done) | (simp [size_drew]; omega))
      have xx := xx_; clear xx_
      have xy_ : Box w1 (w.heap.size + 1 + 1) #[(.slice yA0 yn0 yc0), (.slice yA1 yn1 yc1), (.slice yA2 yn2 yc2), (.slice yA3 yn3 yc3), (.slice yA4 yn4 yc4), (.slice yA5 yn5 yc5)] 68 := ((Box.new (g := w.heap.size + 1 + 1) _ #[(.slice yA0 yn0 yc0), (.slice yA1 yn1 yc1), (.slice yA2 yn2 yc2), (.slice yA3 yn3 yc3), (.slice yA4 yn4 yc4), (.slice yA5 yn5 yc5)] 68 (by simp)).alloc _).below b1 (by first | omega | (simp [size_drew]; done) | (simp [size_drew]; omega))
      have xy := xy_; clear xy_
      have xr_ : Box w1 (w.heap.size + 1 + 1 + 1) #[.int .i64 0, .int .i64 0] 73 := (Box.new (g := w.heap.size + 1 + 1 + 1) _ #[.int .i64 0, .int .i64 0] 73 (by simp)).below b1 (by first | omega | (simp [size_drew]; done) | (simp [size_drew]; omega))
      have xr := xr_; clear xr_
      obtain ⟨cxk_0, cxk_1, fxk_0, fxk_1⟩ := xk.two
      have l_xk_0 : w.heap.size < w1.heap.size := by omega
      obtain ⟨cxx_0, cxx_1, cxx_2, cxx_3, cxx_4, cxx_5, fxx_0, fxx_1, fxx_2, fxx_3, fxx_4, fxx_5⟩ := xx.six
      have l_xx_0 : w.heap.size + 1 < w1.heap.size := by omega
      go_wp2_with fail
      refine (sl23Form_L kI0 (RdL.b kH) kL1n (RdL.b (ls := [((.slice xA2 xn2 xc2), .ints xL2), ((.slice xA3 xn3 xc3), .ints xL3)]) (RdL.sub xH (by simp))) xL2n xL3n).mono ?_
      rintro e w2 ⟨rfl, b2⟩
      clear cxk_0 cxk_1 fxk_0 fxk_1 l_xk_0 cxx_0 cxx_1 cxx_2 cxx_3 cxx_4 cxx_5 fxx_0 fxx_1 fxx_2 fxx_3 fxx_4 fxx_5 l_xx_0
      have z2 := b2.size
      try simp only [World.size_alloc, World.size_setCell, size_drew] at z2
      have B2 : Below w.heap.size w w2 := Below.t b2
      have xk_ : Box w2 (w.heap.size) #[.int .i64 kI0, (.slice kA1 kn1 kc1)] 33 := xk.below b2 (by first | omega | (simp [size_drew]; done) | (simp [size_drew]; omega))
      clear xk; have xk := xk_; clear xk_
      have xx_ : Box w2 (w.heap.size + 1) #[(.slice xA0 xn0 xc0), (.slice xA1 xn1 xc1), (.slice xA2 xn2 xc2), (.slice xA3 xn3 xc3), (.slice xA4 xn4 xc4), (.slice xA5 xn5 xc5)] 68 := xx.below b2 (by first | omega | (simp [size_drew]; done) | (simp [size_drew]; omega))
      clear xx; have xx := xx_; clear xx_
      have xy_ : Box w2 (w.heap.size + 1 + 1) #[(.slice yA0 yn0 yc0), (.slice yA1 yn1 yc1), (.slice yA2 yn2 yc2), (.slice yA3 yn3 yc3), (.slice yA4 yn4 yc4), (.slice yA5 yn5 yc5)] 68 := xy.below b2 (by first | omega | (simp [size_drew]; done) | (simp [size_drew]; omega))
      clear xy; have xy := xy_; clear xy_
      have xr_ : Box w2 (w.heap.size + 1 + 1 + 1) #[.int .i64 0, .int .i64 0] 73 := xr.below b2 (by first | omega | (simp [size_drew]; done) | (simp [size_drew]; omega))
      clear xr; have xr := xr_; clear xr_
      obtain ⟨cxr_0, cxr_1, fxr_0, fxr_1⟩ := xr.two
      have l_xr_0 : w.heap.size + 1 + 1 + 1 < w2.heap.size := by omega
      go_wp2
      refine bodyPost_ret (v := .tuple #[.agg #[.int .i64 (0), .int .i64 (0)], .bool false]) ?_ rfl ⟨by rw [soD_no HO, soE_no HO, HO], ?_⟩
      · simp [results, Try.results66, go_sem, cxr_0, cxr_1, fxr_0, fxr_1, l_xr_0]
      · repeat (with_reducible (first | assumption | exact Below.refl _ _ | refine Below.alloc ?_ (by first | omega | (simp; done) | (simp; omega)) _ | refine Below.setCell ?_ (by first | omega | (simp; done) | (simp; omega)) _ | refine Below.drew ?_ | refine below_drewN ?_ _))
    | true =>
      cases k3 : formOk kI0 kL1 yL0 yL1 with
      | false =>
        have HO : sOpOk kI0 kL1 xL0 xL1 xL2 xL3 yL0 yL1 yL2 yL3 rI0 = false := by simp [sOpOk, form4, k1, k2, k3]
        go_enter Try.func66, Try.ntmps66
        go_wp2_with fail
        refine (sl23Form_L kI0 (RdL.b kH) kL1n (RdL.b (ls := [((.slice xA0 xn0 xc0), .ints xL0), ((.slice xA1 xn1 xc1), .ints xL1)]) (RdL.sub xH (by simp))) xL0n xL1n).mono ?_
        rintro e w1 ⟨rfl, b1⟩
        have z1 := b1.size
        try simp only [World.size_alloc, World.size_setCell, size_drew] at z1
        have B1 : Below w.heap.size w w1 := Below.t b1
        have xk_ : Box w1 (w.heap.size) #[.int .i64 kI0, (.slice kA1 kn1 kc1)] 33 := ((((Box.new (g := w.heap.size) _ #[.int .i64 kI0, (.slice kA1 kn1 kc1)] 33 (by simp)).alloc _).alloc _).alloc _).below b1 (by first | omega | (simp [size_drew]; done) | (simp [size_drew]; omega))
        have xk := xk_; clear xk_
        have xx_ : Box w1 (w.heap.size + 1) #[(.slice xA0 xn0 xc0), (.slice xA1 xn1 xc1), (.slice xA2 xn2 xc2), (.slice xA3 xn3 xc3), (.slice xA4 xn4 xc4), (.slice xA5 xn5 xc5)] 68 := (((Box.new (g := w.heap.size + 1) _ #[(.slice xA0 xn0 xc0), (.slice xA1 xn1 xc1), (.slice xA2 xn2 xc2), (.slice xA3 xn3 xc3), (.slice xA4 xn4 xc4), (.slice xA5 xn5 xc5)] 68 (by simp)).alloc _).alloc _).below b1 (by first | omega | (simp [size_drew]; done) | (simp [size_drew]; omega))
        have xx := xx_; clear xx_
        have xy_ : Box w1 (w.heap.size + 1 + 1) #[(.slice yA0 yn0 yc0), (.slice yA1 yn1 yc1), (.slice yA2 yn2 yc2), (.slice yA3 yn3 yc3), (.slice yA4 yn4 yc4), (.slice yA5 yn5 yc5)] 68 := ((Box.new (g := w.heap.size + 1 + 1) _ #[(.slice yA0 yn0 yc0), (.slice yA1 yn1 yc1), (.slice yA2 yn2 yc2), (.slice yA3 yn3 yc3), (.slice yA4 yn4 yc4), (.slice yA5 yn5 yc5)] 68 (by simp)).alloc _).below b1 (by first | omega | (simp [size_drew]; done) | (simp [size_drew]; omega))
        have xy := xy_; clear xy_
        have xr_ : Box w1 (w.heap.size + 1 + 1 + 1) #[.int .i64 0, .int .i64 0] 73 := (Box.new (g := w.heap.size + 1 + 1 + 1) _ #[.int .i64 0, .int .i64 0] 73 (by simp)).below b1 (by first | omega | (simp [size_drew]; done) | (simp [size_drew]; omega))
        have xr := xr_; clear xr_
        obtain ⟨cxk_0, cxk_1, fxk_0, fxk_1⟩ := xk.two
        have l_xk_0 : w.heap.size < w1.heap.size := by omega
        obtain ⟨cxx_0, cxx_1, cxx_2, cxx_3, cxx_4, cxx_5, fxx_0, fxx_1, fxx_2, fxx_3, fxx_4, fxx_5⟩ := xx.six
        have l_xx_0 : w.heap.size + 1 < w1.heap.size := by omega
        go_wp2_with fail
        refine (sl23Form_L kI0 (RdL.b kH) kL1n (RdL.b (ls := [((.slice xA2 xn2 xc2), .ints xL2), ((.slice xA3 xn3 xc3), .ints xL3)]) (RdL.sub xH (by simp))) xL2n xL3n).mono ?_
        rintro e w2 ⟨rfl, b2⟩
        clear cxk_0 cxk_1 fxk_0 fxk_1 l_xk_0 cxx_0 cxx_1 cxx_2 cxx_3 cxx_4 cxx_5 fxx_0 fxx_1 fxx_2 fxx_3 fxx_4 fxx_5 l_xx_0
        have z2 := b2.size
        try simp only [World.size_alloc, World.size_setCell, size_drew] at z2
        have B2 : Below w.heap.size w w2 := Below.t b2
        have xk_ : Box w2 (w.heap.size) #[.int .i64 kI0, (.slice kA1 kn1 kc1)] 33 := xk.below b2 (by first | omega | (simp [size_drew]; done) | (simp [size_drew]; omega))
        clear xk; have xk := xk_; clear xk_
        have xx_ : Box w2 (w.heap.size + 1) #[(.slice xA0 xn0 xc0), (.slice xA1 xn1 xc1), (.slice xA2 xn2 xc2), (.slice xA3 xn3 xc3), (.slice xA4 xn4 xc4), (.slice xA5 xn5 xc5)] 68 := xx.below b2 (by first | omega | (simp [size_drew]; done) | (simp [size_drew]; omega))
        clear xx; have xx := xx_; clear xx_
        have xy_ : Box w2 (w.heap.size + 1 + 1) #[(.slice yA0 yn0 yc0), (.slice yA1 yn1 yc1), (.slice yA2 yn2 yc2), (.slice yA3 yn3 yc3), (.slice yA4 yn4 yc4), (.slice yA5 yn5 yc5)] 68 := xy.below b2 (by first | omega | (simp [size_drew]; done) | (simp [size_drew]; omega))
        clear xy; have xy := xy_; clear xy_
        have xr_ : Box w2 (w.heap.size + 1 + 1 + 1) #[.int .i64 0, .int .i64 0] 73 := xr.below b2 (by first | omega | (simp [size_drew]; done) | (simp [size_drew]; omega))
        clear xr; have xr := xr_; clear xr_
        obtain ⟨cxk_0, cxk_1, fxk_0, fxk_1⟩ := xk.two
        have l_xk_0 : w.heap.size < w2.heap.size := by omega
        obtain ⟨cxy_0, cxy_1, cxy_2, cxy_3, cxy_4, cxy_5, fxy_0, fxy_1, fxy_2, fxy_3, fxy_4, fxy_5⟩ := xy.six
        have l_xy_0 : w.heap.size + 1 + 1 < w2.heap.size := by omega
        go_wp2_with fail
        refine (sl23Form_L kI0 (RdL.b kH) kL1n (RdL.b (ls := [((.slice yA0 yn0 yc0), .ints yL0), ((.slice yA1 yn1 yc1), .ints yL1)]) (RdL.sub yH (by simp))) yL0n yL1n).mono ?_
        rintro e w3 ⟨rfl, b3⟩
        clear cxk_0 cxk_1 fxk_0 fxk_1 l_xk_0 cxy_0 cxy_1 cxy_2 cxy_3 cxy_4 cxy_5 fxy_0 fxy_1 fxy_2 fxy_3 fxy_4 fxy_5 l_xy_0
        have z3 := b3.size
        try simp only [World.size_alloc, World.size_setCell, size_drew] at z3
        have B3 : Below w.heap.size w w3 := Below.t b3
        have xk_ : Box w3 (w.heap.size) #[.int .i64 kI0, (.slice kA1 kn1 kc1)] 33 := xk.below b3 (by first | omega | (simp [size_drew]; done) | (simp [size_drew]; omega))
        clear xk; have xk := xk_; clear xk_
        have xx_ : Box w3 (w.heap.size + 1) #[(.slice xA0 xn0 xc0), (.slice xA1 xn1 xc1), (.slice xA2 xn2 xc2), (.slice xA3 xn3 xc3), (.slice xA4 xn4 xc4), (.slice xA5 xn5 xc5)] 68 := xx.below b3 (by first | omega | (simp [size_drew]; done) | (simp [size_drew]; omega))
        clear xx; have xx := xx_; clear xx_
        have xy_ : Box w3 (w.heap.size + 1 + 1) #[(.slice yA0 yn0 yc0), (.slice yA1 yn1 yc1), (.slice yA2 yn2 yc2), (.slice yA3 yn3 yc3), (.slice yA4 yn4 yc4), (.slice yA5 yn5 yc5)] 68 := xy.below b3 (by first | omega | (simp [size_drew]; done) | (simp [size_drew]; omega))
        clear xy; have xy := xy_; clear xy_
        have xr_ : Box w3 (w.heap.size + 1 + 1 + 1) #[.int .i64 0, .int .i64 0] 73 := xr.below b3 (by first | omega | (simp [size_drew]; done) | (simp [size_drew]; omega))
        clear xr; have xr := xr_; clear xr_
        obtain ⟨cxr_0, cxr_1, fxr_0, fxr_1⟩ := xr.two
        have l_xr_0 : w.heap.size + 1 + 1 + 1 < w3.heap.size := by omega
        go_wp2
        refine bodyPost_ret (v := .tuple #[.agg #[.int .i64 (0), .int .i64 (0)], .bool false]) ?_ rfl ⟨by rw [soD_no HO, soE_no HO, HO], ?_⟩
        · simp [results, Try.results66, go_sem, cxr_0, cxr_1, fxr_0, fxr_1, l_xr_0]
        · repeat (with_reducible (first | assumption | exact Below.refl _ _ | refine Below.alloc ?_ (by first | omega | (simp; done) | (simp; omega)) _ | refine Below.setCell ?_ (by first | omega | (simp; done) | (simp; omega)) _ | refine Below.drew ?_ | refine below_drewN ?_ _))
      | true =>
        cases k4 : formOk kI0 kL1 yL2 yL3 with
        | false =>
          have HO : sOpOk kI0 kL1 xL0 xL1 xL2 xL3 yL0 yL1 yL2 yL3 rI0 = false := by simp [sOpOk, form4, k1, k2, k3, k4]
          go_enter Try.func66, Try.ntmps66
          go_wp2_with fail
          refine (sl23Form_L kI0 (RdL.b kH) kL1n (RdL.b (ls := [((.slice xA0 xn0 xc0), .ints xL0), ((.slice xA1 xn1 xc1), .ints xL1)]) (RdL.sub xH (by simp))) xL0n xL1n).mono ?_
          rintro e w1 ⟨rfl, b1⟩
          have z1 := b1.size
          try simp only [World.size_alloc, World.size_setCell, size_drew] at z1
          have B1 : Below w.heap.size w w1 := Below.t b1
          have xk_ : Box w1 (w.heap.size) #[.int .i64 kI0, (.slice kA1 kn1 kc1)] 33 := ((((Box.new (g := w.heap.size) _ #[.int .i64 kI0, (.slice kA1 kn1 kc1)] 33 (by simp)).alloc _).alloc _).alloc _).below b1 (by first | omega | (simp [size_drew]; done) | (simp [size_drew]; omega))
          have xk := xk_; clear xk_
          have xx_ : Box w1 (w.heap.size + 1) #[(.slice xA0 xn0 xc0), (.slice xA1 xn1 xc1), (.slice xA2 xn2 xc2), (.slice xA3 xn3 xc3), (.slice xA4 xn4 xc4), (.slice xA5 xn5 xc5)] 68 := (((Box.new (g := w.heap.size + 1) _ #[(.slice xA0 xn0 xc0), (.slice xA1 xn1 xc1), (.slice xA2 xn2 xc2), (.slice xA3 xn3 xc3), (.slice xA4 xn4 xc4), (.slice xA5 xn5 xc5)] 68 (by simp)).alloc _).alloc _).below b1 (by first | omega | (simp [size_drew]; done) | (simp [size_drew]; omega))
          have xx := xx_; clear xx_
          have xy_ : Box w1 (w.heap.size + 1 + 1) #[(.slice yA0 yn0 yc0), (.slice yA1 yn1 yc1), (.slice yA2 yn2 yc2), (.slice yA3 yn3 yc3), (.slice yA4 yn4 yc4), (.slice yA5 yn5 yc5)] 68 := ((Box.new (g := w.heap.size + 1 + 1) _ #[(.slice yA0 yn0 yc0), (.slice yA1 yn1 yc1), (.slice yA2 yn2 yc2), (.slice yA3 yn3 yc3), (.slice yA4 yn4 yc4), (.slice yA5 yn5 yc5)] 68 (by simp)).alloc _).below b1 (by first | omega | (simp [size_drew]; done) | (simp [size_drew]; omega))
          have xy := xy_; clear xy_
          have xr_ : Box w1 (w.heap.size + 1 + 1 + 1) #[.int .i64 0, .int .i64 0] 73 := (Box.new (g := w.heap.size + 1 + 1 + 1) _ #[.int .i64 0, .int .i64 0] 73 (by simp)).below b1 (by first | omega | (simp [size_drew]; done) | (simp [size_drew]; omega))
          have xr := xr_; clear xr_
          obtain ⟨cxk_0, cxk_1, fxk_0, fxk_1⟩ := xk.two
          have l_xk_0 : w.heap.size < w1.heap.size := by omega
          obtain ⟨cxx_0, cxx_1, cxx_2, cxx_3, cxx_4, cxx_5, fxx_0, fxx_1, fxx_2, fxx_3, fxx_4, fxx_5⟩ := xx.six
          have l_xx_0 : w.heap.size + 1 < w1.heap.size := by omega
          go_wp2_with fail
          refine (sl23Form_L kI0 (RdL.b kH) kL1n (RdL.b (ls := [((.slice xA2 xn2 xc2), .ints xL2), ((.slice xA3 xn3 xc3), .ints xL3)]) (RdL.sub xH (by simp))) xL2n xL3n).mono ?_
          rintro e w2 ⟨rfl, b2⟩
          clear cxk_0 cxk_1 fxk_0 fxk_1 l_xk_0 cxx_0 cxx_1 cxx_2 cxx_3 cxx_4 cxx_5 fxx_0 fxx_1 fxx_2 fxx_3 fxx_4 fxx_5 l_xx_0
          have z2 := b2.size
          try simp only [World.size_alloc, World.size_setCell, size_drew] at z2
          have B2 : Below w.heap.size w w2 := Below.t b2
          have xk_ : Box w2 (w.heap.size) #[.int .i64 kI0, (.slice kA1 kn1 kc1)] 33 := xk.below b2 (by first | omega | (simp [size_drew]; done) | (simp [size_drew]; omega))
          clear xk; have xk := xk_; clear xk_
          have xx_ : Box w2 (w.heap.size + 1) #[(.slice xA0 xn0 xc0), (.slice xA1 xn1 xc1), (.slice xA2 xn2 xc2), (.slice xA3 xn3 xc3), (.slice xA4 xn4 xc4), (.slice xA5 xn5 xc5)] 68 := xx.below b2 (by first | omega | (simp [size_drew]; done) | (simp [size_drew]; omega))
          clear xx; have xx := xx_; clear xx_
          have xy_ : Box w2 (w.heap.size + 1 + 1) #[(.slice yA0 yn0 yc0), (.slice yA1 yn1 yc1), (.slice yA2 yn2 yc2), (.slice yA3 yn3 yc3), (.slice yA4 yn4 yc4), (.slice yA5 yn5 yc5)] 68 := xy.below b2 (by first | omega | (simp [size_drew]; done) | (simp [size_drew]; omega))
          clear xy; have xy := xy_; clear xy_
          have xr_ : Box w2 (w.heap.size + 1 + 1 + 1) #[.int .i64 0, .int .i64 0] 73 := xr.below b2 (by first | omega | (simp [size_drew]; done) | (simp [size_drew]; omega))
          clear xr; have xr := xr_; clear xr_
          obtain ⟨cxk_0, cxk_1, fxk_0, fxk_1⟩ := xk.two
          have l_xk_0 : w.heap.size < w2.heap.size := by omega
          obtain ⟨cxy_0, cxy_1, cxy_2, cxy_3, cxy_4, cxy_5, fxy_0, fxy_1, fxy_2, fxy_3, fxy_4, fxy_5⟩ := xy.six
          have l_xy_0 : w.heap.size + 1 + 1 < w2.heap.size := by omega
          go_wp2_with fail
          refine (sl23Form_L kI0 (RdL.b kH) kL1n (RdL.b (ls := [((.slice yA0 yn0 yc0), .ints yL0), ((.slice yA1 yn1 yc1), .ints yL1)]) (RdL.sub yH (by simp))) yL0n yL1n).mono ?_
          rintro e w3 ⟨rfl, b3⟩
          clear cxk_0 cxk_1 fxk_0 fxk_1 l_xk_0 cxy_0 cxy_1 cxy_2 cxy_3 cxy_4 cxy_5 fxy_0 fxy_1 fxy_2 fxy_3 fxy_4 fxy_5 l_xy_0
          have z3 := b3.size
          try simp only [World.size_alloc, World.size_setCell, size_drew] at z3
          have B3 : Below w.heap.size w w3 := Below.t b3
          have xk_ : Box w3 (w.heap.size) #[.int .i64 kI0, (.slice kA1 kn1 kc1)] 33 := xk.below b3 (by first | omega | (simp [size_drew]; done) | (simp [size_drew]; omega))
          clear xk; have xk := xk_; clear xk_
          have xx_ : Box w3 (w.heap.size + 1) #[(.slice xA0 xn0 xc0), (.slice xA1 xn1 xc1), (.slice xA2 xn2 xc2), (.slice xA3 xn3 xc3), (.slice xA4 xn4 xc4), (.slice xA5 xn5 xc5)] 68 := xx.below b3 (by first | omega | (simp [size_drew]; done) | (simp [size_drew]; omega))
          clear xx; have xx := xx_; clear xx_
          have xy_ : Box w3 (w.heap.size + 1 + 1) #[(.slice yA0 yn0 yc0), (.slice yA1 yn1 yc1), (.slice yA2 yn2 yc2), (.slice yA3 yn3 yc3), (.slice yA4 yn4 yc4), (.slice yA5 yn5 yc5)] 68 := xy.below b3 (by first | omega | (simp [size_drew]; done) | (simp [size_drew]; omega))
          clear xy; have xy := xy_; clear xy_
          have xr_ : Box w3 (w.heap.size + 1 + 1 + 1) #[.int .i64 0, .int .i64 0] 73 := xr.below b3 (by first | omega | (simp [size_drew]; done) | (simp [size_drew]; omega))
          clear xr; have xr := xr_; clear xr_
          obtain ⟨cxk_0, cxk_1, fxk_0, fxk_1⟩ := xk.two
          have l_xk_0 : w.heap.size < w3.heap.size := by omega
          obtain ⟨cxy_0, cxy_1, cxy_2, cxy_3, cxy_4, cxy_5, fxy_0, fxy_1, fxy_2, fxy_3, fxy_4, fxy_5⟩ := xy.six
          have l_xy_0 : w.heap.size + 1 + 1 < w3.heap.size := by omega
          go_wp2_with fail
          refine (sl23Form_L kI0 (RdL.b kH) kL1n (RdL.b (ls := [((.slice yA2 yn2 yc2), .ints yL2), ((.slice yA3 yn3 yc3), .ints yL3)]) (RdL.sub yH (by simp))) yL2n yL3n).mono ?_
          rintro e w4 ⟨rfl, b4⟩
          clear cxk_0 cxk_1 fxk_0 fxk_1 l_xk_0 cxy_0 cxy_1 cxy_2 cxy_3 cxy_4 cxy_5 fxy_0 fxy_1 fxy_2 fxy_3 fxy_4 fxy_5 l_xy_0
          have z4 := b4.size
          try simp only [World.size_alloc, World.size_setCell, size_drew] at z4
          have B4 : Below w.heap.size w w4 := Below.t b4
          have xk_ : Box w4 (w.heap.size) #[.int .i64 kI0, (.slice kA1 kn1 kc1)] 33 := xk.below b4 (by first | omega | (simp [size_drew]; done) | (simp [size_drew]; omega))
          clear xk; have xk := xk_; clear xk_
          have xx_ : Box w4 (w.heap.size + 1) #[(.slice xA0 xn0 xc0), (.slice xA1 xn1 xc1), (.slice xA2 xn2 xc2), (.slice xA3 xn3 xc3), (.slice xA4 xn4 xc4), (.slice xA5 xn5 xc5)] 68 := xx.below b4 (by first | omega | (simp [size_drew]; done) | (simp [size_drew]; omega))
          clear xx; have xx := xx_; clear xx_
          have xy_ : Box w4 (w.heap.size + 1 + 1) #[(.slice yA0 yn0 yc0), (.slice yA1 yn1 yc1), (.slice yA2 yn2 yc2), (.slice yA3 yn3 yc3), (.slice yA4 yn4 yc4), (.slice yA5 yn5 yc5)] 68 := xy.below b4 (by first | omega | (simp [size_drew]; done) | (simp [size_drew]; omega))
          clear xy; have xy := xy_; clear xy_
          have xr_ : Box w4 (w.heap.size + 1 + 1 + 1) #[.int .i64 0, .int .i64 0] 73 := xr.below b4 (by first | omega | (simp [size_drew]; done) | (simp [size_drew]; omega))
          clear xr; have xr := xr_; clear xr_
          obtain ⟨cxr_0, cxr_1, fxr_0, fxr_1⟩ := xr.two
          have l_xr_0 : w.heap.size + 1 + 1 + 1 < w4.heap.size := by omega
          go_wp2
          refine bodyPost_ret (v := .tuple #[.agg #[.int .i64 (0), .int .i64 (0)], .bool false]) ?_ rfl ⟨by rw [soD_no HO, soE_no HO, HO], ?_⟩
          · simp [results, Try.results66, go_sem, cxr_0, cxr_1, fxr_0, fxr_1, l_xr_0]
          · repeat (with_reducible (first | assumption | exact Below.refl _ _ | refine Below.alloc ?_ (by first | omega | (simp; done) | (simp; omega)) _ | refine Below.setCell ?_ (by first | omega | (simp; done) | (simp; omega)) _ | refine Below.drew ?_ | refine below_drewN ?_ _))
        | true =>
          cases k5 : elem kI0 rI0 with
          | false =>
            have HO : sOpOk kI0 kL1 xL0 xL1 xL2 xL3 yL0 yL1 yL2 yL3 rI0 = false := by simp [sOpOk, form4, k1, k2, k3, k4, k5]
            go_enter Try.func66, Try.ntmps66
            go_wp2_with fail
            refine (sl23Form_L kI0 (RdL.b kH) kL1n (RdL.b (ls := [((.slice xA0 xn0 xc0), .ints xL0), ((.slice xA1 xn1 xc1), .ints xL1)]) (RdL.sub xH (by simp))) xL0n xL1n).mono ?_
            rintro e w1 ⟨rfl, b1⟩
            have z1 := b1.size
            try simp only [World.size_alloc, World.size_setCell, size_drew] at z1
            have B1 : Below w.heap.size w w1 := Below.t b1
            have xk_ : Box w1 (w.heap.size) #[.int .i64 kI0, (.slice kA1 kn1 kc1)] 33 := ((((Box.new (g := w.heap.size) _ #[.int .i64 kI0, (.slice kA1 kn1 kc1)] 33 (by simp)).alloc _).alloc _).alloc _).below b1 (by first | omega | (simp [size_drew]; done) | (simp [size_drew]; omega))
            have xk := xk_; clear xk_
            have xx_ : Box w1 (w.heap.size + 1) #[(.slice xA0 xn0 xc0), (.slice xA1 xn1 xc1), (.slice xA2 xn2 xc2), (.slice xA3 xn3 xc3), (.slice xA4 xn4 xc4), (.slice xA5 xn5 xc5)] 68 := (((Box.new (g := w.heap.size + 1) _ #[(.slice xA0 xn0 xc0), (.slice xA1 xn1 xc1), (.slice xA2 xn2 xc2), (.slice xA3 xn3 xc3), (.slice xA4 xn4 xc4), (.slice xA5 xn5 xc5)] 68 (by simp)).alloc _).alloc _).below b1 (by first | omega | (simp [size_drew]; done) | (simp [size_drew]; omega))
            have xx := xx_; clear xx_
            have xy_ : Box w1 (w.heap.size + 1 + 1) #[(.slice yA0 yn0 yc0), (.slice yA1 yn1 yc1), (.slice yA2 yn2 yc2), (.slice yA3 yn3 yc3), (.slice yA4 yn4 yc4), (.slice yA5 yn5 yc5)] 68 := ((Box.new (g := w.heap.size + 1 + 1) _ #[(.slice yA0 yn0 yc0), (.slice yA1 yn1 yc1), (.slice yA2 yn2 yc2), (.slice yA3 yn3 yc3), (.slice yA4 yn4 yc4), (.slice yA5 yn5 yc5)] 68 (by simp)).alloc _).below b1 (by first | omega | (simp [size_drew]; done) | (simp [size_drew]; omega))
            have xy := xy_; clear xy_
            have xr_ : Box w1 (w.heap.size + 1 + 1 + 1) #[.int .i64 0, .int .i64 0] 73 := (Box.new (g := w.heap.size + 1 + 1 + 1) _ #[.int .i64 0, .int .i64 0] 73 (by simp)).below b1 (by first | omega | (simp [size_drew]; done) | (simp [size_drew]; omega))
            have xr := xr_; clear xr_
            obtain ⟨cxk_0, cxk_1, fxk_0, fxk_1⟩ := xk.two
            have l_xk_0 : w.heap.size < w1.heap.size := by omega
            obtain ⟨cxx_0, cxx_1, cxx_2, cxx_3, cxx_4, cxx_5, fxx_0, fxx_1, fxx_2, fxx_3, fxx_4, fxx_5⟩ := xx.six
            have l_xx_0 : w.heap.size + 1 < w1.heap.size := by omega
            go_wp2_with fail
            refine (sl23Form_L kI0 (RdL.b kH) kL1n (RdL.b (ls := [((.slice xA2 xn2 xc2), .ints xL2), ((.slice xA3 xn3 xc3), .ints xL3)]) (RdL.sub xH (by simp))) xL2n xL3n).mono ?_
            rintro e w2 ⟨rfl, b2⟩
            clear cxk_0 cxk_1 fxk_0 fxk_1 l_xk_0 cxx_0 cxx_1 cxx_2 cxx_3 cxx_4 cxx_5 fxx_0 fxx_1 fxx_2 fxx_3 fxx_4 fxx_5 l_xx_0
            have z2 := b2.size
            try simp only [World.size_alloc, World.size_setCell, size_drew] at z2
            have B2 : Below w.heap.size w w2 := Below.t b2
            have xk_ : Box w2 (w.heap.size) #[.int .i64 kI0, (.slice kA1 kn1 kc1)] 33 := xk.below b2 (by first | omega | (simp [size_drew]; done) | (simp [size_drew]; omega))
            clear xk; have xk := xk_; clear xk_
            have xx_ : Box w2 (w.heap.size + 1) #[(.slice xA0 xn0 xc0), (.slice xA1 xn1 xc1), (.slice xA2 xn2 xc2), (.slice xA3 xn3 xc3), (.slice xA4 xn4 xc4), (.slice xA5 xn5 xc5)] 68 := xx.below b2 (by first | omega | (simp [size_drew]; done) | (simp [size_drew]; omega))
            clear xx; have xx := xx_; clear xx_
            have xy_ : Box w2 (w.heap.size + 1 + 1) #[(.slice yA0 yn0 yc0), (.slice yA1 yn1 yc1), (.slice yA2 yn2 yc2), (.slice yA3 yn3 yc3), (.slice yA4 yn4 yc4), (.slice yA5 yn5 yc5)] 68 := xy.below b2 (by first | omega | (simp [size_drew]; done) | (simp [size_drew]; omega))
            clear xy; have xy := xy_; clear xy_
            have xr_ : Box w2 (w.heap.size + 1 + 1 + 1) #[.int .i64 0, .int .i64 0] 73 := xr.below b2 (by first | omega | (simp [size_drew]; done) | (simp [size_drew]; omega))
            clear xr; have xr := xr_; clear xr_
            obtain ⟨cxk_0, cxk_1, fxk_0, fxk_1⟩ := xk.two
            have l_xk_0 : w.heap.size < w2.heap.size := by omega
            obtain ⟨cxy_0, cxy_1, cxy_2, cxy_3, cxy_4, cxy_5, fxy_0, fxy_1, fxy_2, fxy_3, fxy_4, fxy_5⟩ := xy.six
            have l_xy_0 : w.heap.size + 1 + 1 < w2.heap.size := by omega
            go_wp2_with fail
            refine (sl23Form_L kI0 (RdL.b kH) kL1n (RdL.b (ls := [((.slice yA0 yn0 yc0), .ints yL0), ((.slice yA1 yn1 yc1), .ints yL1)]) (RdL.sub yH (by simp))) yL0n yL1n).mono ?_
            rintro e w3 ⟨rfl, b3⟩
            clear cxk_0 cxk_1 fxk_0 fxk_1 l_xk_0 cxy_0 cxy_1 cxy_2 cxy_3 cxy_4 cxy_5 fxy_0 fxy_1 fxy_2 fxy_3 fxy_4 fxy_5 l_xy_0
            have z3 := b3.size
            try simp only [World.size_alloc, World.size_setCell, size_drew] at z3
            have B3 : Below w.heap.size w w3 := Below.t b3
            have xk_ : Box w3 (w.heap.size) #[.int .i64 kI0, (.slice kA1 kn1 kc1)] 33 := xk.below b3 (by first | omega | (simp [size_drew]; done) | (simp [size_drew]; omega))
            clear xk; have xk := xk_; clear xk_
            have xx_ : Box w3 (w.heap.size + 1) #[(.slice xA0 xn0 xc0), (.slice xA1 xn1 xc1), (.slice xA2 xn2 xc2), (.slice xA3 xn3 xc3), (.slice xA4 xn4 xc4), (.slice xA5 xn5 xc5)] 68 := xx.below b3 (by first | omega | (simp [size_drew]; done) | (simp [size_drew]; omega))
            clear xx; have xx := xx_; clear xx_
            have xy_ : Box w3 (w.heap.size + 1 + 1) #[(.slice yA0 yn0 yc0), (.slice yA1 yn1 yc1), (.slice yA2 yn2 yc2), (.slice yA3 yn3 yc3), (.slice yA4 yn4 yc4), (.slice yA5 yn5 yc5)] 68 := xy.below b3 (by first | omega | (simp [size_drew]; done) | (simp [size_drew]; omega))
            clear xy; have xy := xy_; clear xy_
            have xr_ : Box w3 (w.heap.size + 1 + 1 + 1) #[.int .i64 0, .int .i64 0] 73 := xr.below b3 (by first | omega | (simp [size_drew]; done) | (simp [size_drew]; omega))
            clear xr; have xr := xr_; clear xr_
            obtain ⟨cxk_0, cxk_1, fxk_0, fxk_1⟩ := xk.two
            have l_xk_0 : w.heap.size < w3.heap.size := by omega
            obtain ⟨cxy_0, cxy_1, cxy_2, cxy_3, cxy_4, cxy_5, fxy_0, fxy_1, fxy_2, fxy_3, fxy_4, fxy_5⟩ := xy.six
            have l_xy_0 : w.heap.size + 1 + 1 < w3.heap.size := by omega
            go_wp2_with fail
            refine (sl23Form_L kI0 (RdL.b kH) kL1n (RdL.b (ls := [((.slice yA2 yn2 yc2), .ints yL2), ((.slice yA3 yn3 yc3), .ints yL3)]) (RdL.sub yH (by simp))) yL2n yL3n).mono ?_
            rintro e w4 ⟨rfl, b4⟩
            clear cxk_0 cxk_1 fxk_0 fxk_1 l_xk_0 cxy_0 cxy_1 cxy_2 cxy_3 cxy_4 cxy_5 fxy_0 fxy_1 fxy_2 fxy_3 fxy_4 fxy_5 l_xy_0
            have z4 := b4.size
            try simp only [World.size_alloc, World.size_setCell, size_drew] at z4
            have B4 : Below w.heap.size w w4 := Below.t b4
            have xk_ : Box w4 (w.heap.size) #[.int .i64 kI0, (.slice kA1 kn1 kc1)] 33 := xk.below b4 (by first | omega | (simp [size_drew]; done) | (simp [size_drew]; omega))
            clear xk; have xk := xk_; clear xk_
            have xx_ : Box w4 (w.heap.size + 1) #[(.slice xA0 xn0 xc0), (.slice xA1 xn1 xc1), (.slice xA2 xn2 xc2), (.slice xA3 xn3 xc3), (.slice xA4 xn4 xc4), (.slice xA5 xn5 xc5)] 68 := xx.below b4 (by first | omega | (simp [size_drew]; done) | (simp [size_drew]; omega))
            clear xx; have xx := xx_; clear xx_
            have xy_ : Box w4 (w.heap.size + 1 + 1) #[(.slice yA0 yn0 yc0), (.slice yA1 yn1 yc1), (.slice yA2 yn2 yc2), (.slice yA3 yn3 yc3), (.slice yA4 yn4 yc4), (.slice yA5 yn5 yc5)] 68 := xy.below b4 (by first | omega | (simp [size_drew]; done) | (simp [size_drew]; omega))
            clear xy; have xy := xy_; clear xy_
            have xr_ : Box w4 (w.heap.size + 1 + 1 + 1) #[.int .i64 0, .int .i64 0] 73 := xr.below b4 (by first | omega | (simp [size_drew]; done) | (simp [size_drew]; omega))
            clear xr; have xr := xr_; clear xr_
            obtain ⟨cxk_0, cxk_1, fxk_0, fxk_1⟩ := xk.two
            have l_xk_0 : w.heap.size < w4.heap.size := by omega
            go_wp2_with fail
            refine (sIsElement_any _ _ _).mono ?_
            rintro e w_ ⟨rfl, rfl⟩
            obtain ⟨cxr_0, cxr_1, fxr_0, fxr_1⟩ := xr.two
            have l_xr_0 : w.heap.size + 1 + 1 + 1 < w4.heap.size := by omega
            go_wp2
            refine bodyPost_ret (v := .tuple #[.agg #[.int .i64 (0), .int .i64 (0)], .bool false]) ?_ rfl ⟨by rw [soD_no HO, soE_no HO, HO], ?_⟩
            · simp [results, Try.results66, go_sem, cxr_0, cxr_1, fxr_0, fxr_1, l_xr_0]
            · repeat (with_reducible (first | assumption | exact Below.refl _ _ | refine Below.alloc ?_ (by first | omega | (simp; done) | (simp; omega)) _ | refine Below.setCell ?_ (by first | omega | (simp; done) | (simp; omega)) _ | refine Below.drew ?_ | refine below_drewN ?_ _))
          | true =>
            have HO : sOpOk kI0 kL1 xL0 xL1 xL2 xL3 yL0 yL1 yL2 yL3 rI0 = true := by simp [sOpOk, form4, k1, k2, k3, k4, k5]
            go_enter Try.func66, Try.ntmps66
            go_wp2_with fail
            refine (sl23Form_L kI0 (RdL.b kH) kL1n (RdL.b (ls := [((.slice xA0 xn0 xc0), .ints xL0), ((.slice xA1 xn1 xc1), .ints xL1)]) (RdL.sub xH (by simp))) xL0n xL1n).mono ?_
            rintro e w1 ⟨rfl, b1⟩
            have z1 := b1.size
            try simp only [World.size_alloc, World.size_setCell, size_drew] at z1
            have B1 : Below w.heap.size w w1 := Below.t b1
            have xk_ : Box w1 (w.heap.size) #[.int .i64 kI0, (.slice kA1 kn1 kc1)] 33 := ((((Box.new (g := w.heap.size) _ #[.int .i64 kI0, (.slice kA1 kn1 kc1)] 33 (by simp)).alloc _).alloc _).alloc _).below b1 (by first | omega | (simp [size_drew]; done) | (simp [size_drew]; omega))
            have xk := xk_; clear xk_
            have xx_ : Box w1 (w.heap.size + 1) #[(.slice xA0 xn0 xc0), (.slice xA1 xn1 xc1), (.slice xA2 xn2 xc2), (.slice xA3 xn3 xc3), (.slice xA4 xn4 xc4), (.slice xA5 xn5 xc5)] 68 := (((Box.new (g := w.heap.size + 1) _ #[(.slice xA0 xn0 xc0), (.slice xA1 xn1 xc1), (.slice xA2 xn2 xc2), (.slice xA3 xn3 xc3), (.slice xA4 xn4 xc4), (.slice xA5 xn5 xc5)] 68 (by simp)).alloc _).alloc _).below b1 (by first | omega | (simp [size_drew]; done) | (simp [size_drew]; omega))
            have xx := xx_; clear xx_
            have xy_ : Box w1 (w.heap.size + 1 + 1) #[(.slice yA0 yn0 yc0), (.slice yA1 yn1 yc1), (.slice yA2 yn2 yc2), (.slice yA3 yn3 yc3), (.slice yA4 yn4 yc4), (.slice yA5 yn5 yc5)] 68 := ((Box.new (g := w.heap.size + 1 + 1) _ #[(.slice yA0 yn0 yc0), (.slice yA1 yn1 yc1), (.slice yA2 yn2 yc2), (.slice yA3 yn3 yc3), (.slice yA4 yn4 yc4), (.slice yA5 yn5 yc5)] 68 (by simp)).alloc _).below b1 (by first | omega | (simp [size_drew]; done) | (simp [size_drew]; omega))
            have xy := xy_; clear xy_
            have xr_ : Box w1 (w.heap.size + 1 + 1 + 1) #[.int .i64 0, .int .i64 0] 73 := (Box.new (g := w.heap.size + 1 + 1 + 1) _ #[.int .i64 0, .int .i64 0] 73 (by simp)).below b1 (by first | omega | (simp [size_drew]; done) | (simp [size_drew]; omega))
            have xr := xr_; clear xr_
            obtain ⟨cxk_0, cxk_1, fxk_0, fxk_1⟩ := xk.two
            have l_xk_0 : w.heap.size < w1.heap.size := by omega
            obtain ⟨cxx_0, cxx_1, cxx_2, cxx_3, cxx_4, cxx_5, fxx_0, fxx_1, fxx_2, fxx_3, fxx_4, fxx_5⟩ := xx.six
            have l_xx_0 : w.heap.size + 1 < w1.heap.size := by omega
            go_wp2_with fail
            refine (sl23Form_L kI0 (RdL.b kH) kL1n (RdL.b (ls := [((.slice xA2 xn2 xc2), .ints xL2), ((.slice xA3 xn3 xc3), .ints xL3)]) (RdL.sub xH (by simp))) xL2n xL3n).mono ?_
            rintro e w2 ⟨rfl, b2⟩
            clear cxk_0 cxk_1 fxk_0 fxk_1 l_xk_0 cxx_0 cxx_1 cxx_2 cxx_3 cxx_4 cxx_5 fxx_0 fxx_1 fxx_2 fxx_3 fxx_4 fxx_5 l_xx_0
            have z2 := b2.size
            try simp only [World.size_alloc, World.size_setCell, size_drew] at z2
            have B2 : Below w.heap.size w w2 := Below.t b2
            have xk_ : Box w2 (w.heap.size) #[.int .i64 kI0, (.slice kA1 kn1 kc1)] 33 := xk.below b2 (by first | omega | (simp [size_drew]; done) | (simp [size_drew]; omega))
            clear xk; have xk := xk_; clear xk_
            have xx_ : Box w2 (w.heap.size + 1) #[(.slice xA0 xn0 xc0), (.slice xA1 xn1 xc1), (.slice xA2 xn2 xc2), (.slice xA3 xn3 xc3), (.slice xA4 xn4 xc4), (.slice xA5 xn5 xc5)] 68 := xx.below b2 (by first | omega | (simp [size_drew]; done) | (simp [size_drew]; omega))
            clear xx; have xx := xx_; clear xx_
            have xy_ : Box w2 (w.heap.size + 1 + 1) #[(.slice yA0 yn0 yc0), (.slice yA1 yn1 yc1), (.slice yA2 yn2 yc2), (.slice yA3 yn3 yc3), (.slice yA4 yn4 yc4), (.slice yA5 yn5 yc5)] 68 := xy.below b2 (by first | omega | (simp [size_drew]; done) | (simp [size_drew]; omega))
            clear xy; have xy := xy_; clear xy_
            have xr_ : Box w2 (w.heap.size + 1 + 1 + 1) #[.int .i64 0, .int .i64 0] 73 := xr.below b2 (by first | omega | (simp [size_drew]; done) | (simp [size_drew]; omega))
            clear xr; have xr := xr_; clear xr_
            obtain ⟨cxk_0, cxk_1, fxk_0, fxk_1⟩ := xk.two
            have l_xk_0 : w.heap.size < w2.heap.size := by omega
            obtain ⟨cxy_0, cxy_1, cxy_2, cxy_3, cxy_4, cxy_5, fxy_0, fxy_1, fxy_2, fxy_3, fxy_4, fxy_5⟩ := xy.six
            have l_xy_0 : w.heap.size + 1 + 1 < w2.heap.size := by omega
            go_wp2_with fail
            refine (sl23Form_L kI0 (RdL.b kH) kL1n (RdL.b (ls := [((.slice yA0 yn0 yc0), .ints yL0), ((.slice yA1 yn1 yc1), .ints yL1)]) (RdL.sub yH (by simp))) yL0n yL1n).mono ?_
            rintro e w3 ⟨rfl, b3⟩
            clear cxk_0 cxk_1 fxk_0 fxk_1 l_xk_0 cxy_0 cxy_1 cxy_2 cxy_3 cxy_4 cxy_5 fxy_0 fxy_1 fxy_2 fxy_3 fxy_4 fxy_5 l_xy_0
            have z3 := b3.size
            try simp only [World.size_alloc, World.size_setCell, size_drew] at z3
            have B3 : Below w.heap.size w w3 := Below.t b3
            have xk_ : Box w3 (w.heap.size) #[.int .i64 kI0, (.slice kA1 kn1 kc1)] 33 := xk.below b3 (by first | omega | (simp [size_drew]; done) | (simp [size_drew]; omega))
            clear xk; have xk := xk_; clear xk_
            have xx_ : Box w3 (w.heap.size + 1) #[(.slice xA0 xn0 xc0), (.slice xA1 xn1 xc1), (.slice xA2 xn2 xc2), (.slice xA3 xn3 xc3), (.slice xA4 xn4 xc4), (.slice xA5 xn5 xc5)] 68 := xx.below b3 (by first | omega | (simp [size_drew]; done) | (simp [size_drew]; omega))
            clear xx; have xx := xx_; clear xx_
            have xy_ : Box w3 (w.heap.size + 1 + 1) #[(.slice yA0 yn0 yc0), (.slice yA1 yn1 yc1), (.slice yA2 yn2 yc2), (.slice yA3 yn3 yc3), (.slice yA4 yn4 yc4), (.slice yA5 yn5 yc5)] 68 := xy.below b3 (by first | omega | (simp [size_drew]; done) | (simp [size_drew]; omega))
            clear xy; have xy := xy_; clear xy_
            have xr_ : Box w3 (w.heap.size + 1 + 1 + 1) #[.int .i64 0, .int .i64 0] 73 := xr.below b3 (by first | omega | (simp [size_drew]; done) | (simp [size_drew]; omega))
            clear xr; have xr := xr_; clear xr_
            obtain ⟨cxk_0, cxk_1, fxk_0, fxk_1⟩ := xk.two
            have l_xk_0 : w.heap.size < w3.heap.size := by omega
            obtain ⟨cxy_0, cxy_1, cxy_2, cxy_3, cxy_4, cxy_5, fxy_0, fxy_1, fxy_2, fxy_3, fxy_4, fxy_5⟩ := xy.six
            have l_xy_0 : w.heap.size + 1 + 1 < w3.heap.size := by omega
            go_wp2_with fail
            refine (sl23Form_L kI0 (RdL.b kH) kL1n (RdL.b (ls := [((.slice yA2 yn2 yc2), .ints yL2), ((.slice yA3 yn3 yc3), .ints yL3)]) (RdL.sub yH (by simp))) yL2n yL3n).mono ?_
            rintro e w4 ⟨rfl, b4⟩
            clear cxk_0 cxk_1 fxk_0 fxk_1 l_xk_0 cxy_0 cxy_1 cxy_2 cxy_3 cxy_4 cxy_5 fxy_0 fxy_1 fxy_2 fxy_3 fxy_4 fxy_5 l_xy_0
            have z4 := b4.size
            try simp only [World.size_alloc, World.size_setCell, size_drew] at z4
            have B4 : Below w.heap.size w w4 := Below.t b4
            have xk_ : Box w4 (w.heap.size) #[.int .i64 kI0, (.slice kA1 kn1 kc1)] 33 := xk.below b4 (by first | omega | (simp [size_drew]; done) | (simp [size_drew]; omega))
            clear xk; have xk := xk_; clear xk_
            have xx_ : Box w4 (w.heap.size + 1) #[(.slice xA0 xn0 xc0), (.slice xA1 xn1 xc1), (.slice xA2 xn2 xc2), (.slice xA3 xn3 xc3), (.slice xA4 xn4 xc4), (.slice xA5 xn5 xc5)] 68 := xx.below b4 (by first | omega | (simp [size_drew]; done) | (simp [size_drew]; omega))
            clear xx; have xx := xx_; clear xx_
            have xy_ : Box w4 (w.heap.size + 1 + 1) #[(.slice yA0 yn0 yc0), (.slice yA1 yn1 yc1), (.slice yA2 yn2 yc2), (.slice yA3 yn3 yc3), (.slice yA4 yn4 yc4), (.slice yA5 yn5 yc5)] 68 := xy.below b4 (by first | omega | (simp [size_drew]; done) | (simp [size_drew]; omega))
            clear xy; have xy := xy_; clear xy_
            have xr_ : Box w4 (w.heap.size + 1 + 1 + 1) #[.int .i64 0, .int .i64 0] 73 := xr.below b4 (by first | omega | (simp [size_drew]; done) | (simp [size_drew]; omega))
            clear xr; have xr := xr_; clear xr_
            obtain ⟨cxk_0, cxk_1, fxk_0, fxk_1⟩ := xk.two
            have l_xk_0 : w.heap.size < w4.heap.size := by omega
            go_wp2_with fail
            refine (sIsElement_any _ _ _).mono ?_
            rintro e w_ ⟨rfl, rfl⟩
            obtain ⟨cxk_0, cxk_1, fxk_0, fxk_1⟩ := xk.two
            have l_xk_0 : w.heap.size < w4.heap.size := by omega
            obtain ⟨cxx_0, cxx_1, cxx_2, cxx_3, cxx_4, cxx_5, fxx_0, fxx_1, fxx_2, fxx_3, fxx_4, fxx_5⟩ := xx.six
            have l_xx_0 : w.heap.size + 1 < w4.heap.size := by omega
            obtain ⟨cxy_0, cxy_1, cxy_2, cxy_3, cxy_4, cxy_5, fxy_0, fxy_1, fxy_2, fxy_3, fxy_4, fxy_5⟩ := xy.six
            have l_xy_0 : w.heap.size + 1 + 1 < w4.heap.size := by omega
            go_wp2_with fail
            clear cxk_0 cxk_1 fxk_0 fxk_1 l_xk_0 cxx_0 cxx_1 cxx_2 cxx_3 cxx_4 cxx_5 fxx_0 fxx_1 fxx_2 fxx_3 fxx_4 fxx_5 l_xx_0 cxy_0 cxy_1 cxy_2 cxy_3 cxy_4 cxy_5 fxy_0 fxy_1 fxy_2 fxy_3 fxy_4 fxy_5 l_xy_0
            refine wp_region_held_drew (S := fun W => W.cell? ⟨w.heap.size, 0, none⟩ = some (.int .i64 kI0) ∧ W.cell? ⟨w.heap.size, 1, none⟩ = some ((.slice kA1 kn1 kc1)) ∧ W.cell? ⟨w.heap.size + 1, 0, none⟩ = some ((.slice xA0 xn0 xc0)) ∧ W.cell? ⟨w.heap.size + 1, 1, none⟩ = some ((.slice xA1 xn1 xc1)) ∧ W.cell? ⟨w.heap.size + 1, 2, none⟩ = some ((.slice xA2 xn2 xc2)) ∧ W.cell? ⟨w.heap.size + 1, 3, none⟩ = some ((.slice xA3 xn3 xc3)) ∧ W.cell? ⟨w.heap.size + 1, 4, none⟩ = some ((.slice xA4 xn4 xc4)) ∧ W.cell? ⟨w.heap.size + 1, 5, none⟩ = some ((.slice xA5 xn5 xc5)) ∧ W.cell? ⟨w.heap.size + 1 + 1, 0, none⟩ = some ((.slice yA0 yn0 yc0)) ∧ W.cell? ⟨w.heap.size + 1 + 1, 1, none⟩ = some ((.slice yA1 yn1 yc1)) ∧ W.cell? ⟨w.heap.size + 1 + 1, 2, none⟩ = some ((.slice yA2 yn2 yc2)) ∧ W.cell? ⟨w.heap.size + 1 + 1, 3, none⟩ = some ((.slice yA3 yn3 yc3)) ∧ W.cell? ⟨w.heap.size + 1 + 1, 4, none⟩ = some ((.slice yA4 yn4 yc4)) ∧ W.cell? ⟨w.heap.size + 1 + 1, 5, none⟩ = some ((.slice yA5 yn5 yc5))) (by kernel_rfl) ⟨xk.drew.two.1, xk.drew.two.2.1, xx.drew.six.1, xx.drew.six.2.1, xx.drew.six.2.2.1, xx.drew.six.2.2.2.1, xx.drew.six.2.2.2.2.1, xx.drew.six.2.2.2.2.2.1, xy.drew.six.1, xy.drew.six.2.1, xy.drew.six.2.2.1, xy.drew.six.2.2.2.1, xy.drew.six.2.2.2.2.1, xy.drew.six.2.2.2.2.2.1⟩ (fun hS => ?_)
            (refine tk 0 hS ?_; (try simp only [Act.put, layA, layB, layC]))
            (refine tk 1 hS ?_; (try simp only [Act.put, layA, layB, layC]))
            (refine tk 2 hS ?_; (try simp only [Act.put, layA, layB, layC]))
            (refine tk 3 hS ?_; (try simp only [Act.put, layA, layB, layC]))
            (refine tk 4 hS ?_; (try simp only [Act.put, layA, layB, layC]))
            (refine tk 5 hS ?_; (try simp only [Act.put, layA, layB, layC]))
            (refine tk 6 hS ?_; (try simp only [Act.put, layA, layB, layC]))
            (refine tk 7 hS ?_; (try simp only [Act.put, layA, layB, layC]))
            (refine tk 10 hS ?_; (try simp only [Act.put, layA, layB, layC]))
            (refine tk 11 hS ?_; (try simp only [Act.put, layA, layB, layC]))
            (refine tk 12 hS ?_; (try simp only [Act.put, layA, layB, layC]))
            refine on 8 ?_
            refine callH (by go_simp; (first | done | with_reducible rfl | exact ⟨rfl, rfl⟩)) ?_
            go_at_call 121
            refine (sl24Value_L kI0 (RdL.b kH) kL1n (RdL.b (ls := [((.slice xA0 xn0 xc0), .ints xL0), ((.slice xA1 xn1 xc1), .ints xL1)]) (RdL.sub xH (by simp))) xL0n xL1n).mono ?_
            rintro e w5 ⟨rfl, b5⟩
            clear hS
            have z5 := Below.size b5
            (try simp only [World.size_alloc, World.size_setCell, size_drew] at z5)
            have B5 : Below w.heap.size w w5 := Below.t b5
            have xk_ : Box w5 (w.heap.size) #[.int .i64 kI0, (.slice kA1 kn1 kc1)] 33 := (Box.b xk.drew b5)
            clear xk; have xk := xk_; clear xk_
            have xx_ : Box w5 (w.heap.size + 1) #[(.slice xA0 xn0 xc0), (.slice xA1 xn1 xc1), (.slice xA2 xn2 xc2), (.slice xA3 xn3 xc3), (.slice xA4 xn4 xc4), (.slice xA5 xn5 xc5)] 68 := (Box.b xx.drew b5)
            clear xx; have xx := xx_; clear xx_
            have xy_ : Box w5 (w.heap.size + 1 + 1) #[(.slice yA0 yn0 yc0), (.slice yA1 yn1 yc1), (.slice yA2 yn2 yc2), (.slice yA3 yn3 yc3), (.slice yA4 yn4 yc4), (.slice yA5 yn5 yc5)] 68 := (Box.b xy.drew b5)
            clear xy; have xy := xy_; clear xy_
            have xr_ : Box w5 (w.heap.size + 1 + 1 + 1) #[.int .i64 0, .int .i64 0] 73 := (Box.b xr.drew b5)
            clear xr; have xr := xr_; clear xr_
            refine ⟨_, rfl, ⟨xk.two.1, xk.two.2.1, xx.six.1, xx.six.2.1, xx.six.2.2.1, xx.six.2.2.2.1, xx.six.2.2.2.2.1, xx.six.2.2.2.2.2.1, xy.six.1, xy.six.2.1, xy.six.2.2.1, xy.six.2.2.2.1, xy.six.2.2.2.2.1, xy.six.2.2.2.2.2.1⟩, fun hS => ?_⟩
            (try simp only [Act.put, layA, layB, layC])
            refine on 9 ?_
            refine callH (by go_simp; (first | done | with_reducible rfl | exact ⟨rfl, rfl⟩)) ?_
            go_at_call 105
            refine (sFMul_any _ _ _ _).mono ?_
            rintro e w_ ⟨rfl, rfl⟩
            refine ⟨_, rfl, hS, fun hS => ?_⟩
            (try simp only [Act.put, layA, layB, layC])
            refine on 13 ?_
            refine callH (by go_simp; (first | done | with_reducible rfl | exact ⟨rfl, rfl⟩)) ?_
            go_at_call 121
            refine (sl24Value_L kI0 (RdL.b kH) kL1n (RdL.b (ls := [((.slice yA0 yn0 yc0), .ints yL0), ((.slice yA1 yn1 yc1), .ints yL1)]) (RdL.sub yH (by simp))) yL0n yL1n).mono ?_
            rintro e w6 ⟨rfl, b6⟩
            clear hS
            have z6 := Below.size b6
            (try simp only [World.size_alloc, World.size_setCell, size_drew] at z6)
            have B6 : Below w.heap.size w w6 := Below.t b6
            have xk_ : Box w6 (w.heap.size) #[.int .i64 kI0, (.slice kA1 kn1 kc1)] 33 := (Box.b xk b6)
            clear xk; have xk := xk_; clear xk_
            have xx_ : Box w6 (w.heap.size + 1) #[(.slice xA0 xn0 xc0), (.slice xA1 xn1 xc1), (.slice xA2 xn2 xc2), (.slice xA3 xn3 xc3), (.slice xA4 xn4 xc4), (.slice xA5 xn5 xc5)] 68 := (Box.b xx b6)
            clear xx; have xx := xx_; clear xx_
            have xy_ : Box w6 (w.heap.size + 1 + 1) #[(.slice yA0 yn0 yc0), (.slice yA1 yn1 yc1), (.slice yA2 yn2 yc2), (.slice yA3 yn3 yc3), (.slice yA4 yn4 yc4), (.slice yA5 yn5 yc5)] 68 := (Box.b xy b6)
            clear xy; have xy := xy_; clear xy_
            have xr_ : Box w6 (w.heap.size + 1 + 1 + 1) #[.int .i64 0, .int .i64 0] 73 := (Box.b xr b6)
            clear xr; have xr := xr_; clear xr_
            refine ⟨_, rfl, ⟨xk.two.1, xk.two.2.1, xx.six.1, xx.six.2.1, xx.six.2.2.1, xx.six.2.2.2.1, xx.six.2.2.2.2.1, xx.six.2.2.2.2.2.1, xy.six.1, xy.six.2.1, xy.six.2.2.1, xy.six.2.2.2.1, xy.six.2.2.2.2.1, xy.six.2.2.2.2.2.1⟩, fun hS => ?_⟩
            (try simp only [Act.put, layA, layB, layC])
            refine on 14 ?_
            refine callH (by go_simp; (first | done | with_reducible rfl | exact ⟨rfl, rfl⟩)) ?_
            go_at_call 88
            refine (sFSub_any _ _ _ _).mono ?_
            rintro e w_ ⟨rfl, rfl⟩
            refine ⟨_, rfl, hS, fun hS => ?_⟩
            (try simp only [Act.put, layA, layB, layC])
            (refine tk 15 hS ?_; (try simp only [Act.put, layA, layB, layC]))
            clear hS
            refine wpAnyH_done (by kernel_rfl) ?_ _
            obtain ⟨cxk_0, cxk_1, fxk_0, fxk_1⟩ := xk.two
            have l_xk_0 : w.heap.size < w6.heap.size := by omega
            obtain ⟨cxx_0, cxx_1, cxx_2, cxx_3, cxx_4, cxx_5, fxx_0, fxx_1, fxx_2, fxx_3, fxx_4, fxx_5⟩ := xx.six
            have l_xx_0 : w.heap.size + 1 < w6.heap.size := by omega
            obtain ⟨cxy_0, cxy_1, cxy_2, cxy_3, cxy_4, cxy_5, fxy_0, fxy_1, fxy_2, fxy_3, fxy_4, fxy_5⟩ := xy.six
            have l_xy_0 : w.heap.size + 1 + 1 < w6.heap.size := by omega
            go_wp2_with fail
            clear cxk_0 cxk_1 fxk_0 fxk_1 l_xk_0 cxx_0 cxx_1 cxx_2 cxx_3 cxx_4 cxx_5 fxx_0 fxx_1 fxx_2 fxx_3 fxx_4 fxx_5 l_xx_0 cxy_0 cxy_1 cxy_2 cxy_3 cxy_4 cxy_5 fxy_0 fxy_1 fxy_2 fxy_3 fxy_4 fxy_5 l_xy_0
            refine wp_region_held_drew (S := fun W => W.cell? ⟨w.heap.size, 0, none⟩ = some (.int .i64 kI0) ∧ W.cell? ⟨w.heap.size, 1, none⟩ = some ((.slice kA1 kn1 kc1)) ∧ W.cell? ⟨w.heap.size + 1, 0, none⟩ = some ((.slice xA0 xn0 xc0)) ∧ W.cell? ⟨w.heap.size + 1, 1, none⟩ = some ((.slice xA1 xn1 xc1)) ∧ W.cell? ⟨w.heap.size + 1, 2, none⟩ = some ((.slice xA2 xn2 xc2)) ∧ W.cell? ⟨w.heap.size + 1, 3, none⟩ = some ((.slice xA3 xn3 xc3)) ∧ W.cell? ⟨w.heap.size + 1, 4, none⟩ = some ((.slice xA4 xn4 xc4)) ∧ W.cell? ⟨w.heap.size + 1, 5, none⟩ = some ((.slice xA5 xn5 xc5)) ∧ W.cell? ⟨w.heap.size + 1 + 1, 0, none⟩ = some ((.slice yA0 yn0 yc0)) ∧ W.cell? ⟨w.heap.size + 1 + 1, 1, none⟩ = some ((.slice yA1 yn1 yc1)) ∧ W.cell? ⟨w.heap.size + 1 + 1, 2, none⟩ = some ((.slice yA2 yn2 yc2)) ∧ W.cell? ⟨w.heap.size + 1 + 1, 3, none⟩ = some ((.slice yA3 yn3 yc3)) ∧ W.cell? ⟨w.heap.size + 1 + 1, 4, none⟩ = some ((.slice yA4 yn4 yc4)) ∧ W.cell? ⟨w.heap.size + 1 + 1, 5, none⟩ = some ((.slice yA5 yn5 yc5))) (by kernel_rfl) ⟨xk.drew.two.1, xk.drew.two.2.1, xx.drew.six.1, xx.drew.six.2.1, xx.drew.six.2.2.1, xx.drew.six.2.2.2.1, xx.drew.six.2.2.2.2.1, xx.drew.six.2.2.2.2.2.1, xy.drew.six.1, xy.drew.six.2.1, xy.drew.six.2.2.1, xy.drew.six.2.2.2.1, xy.drew.six.2.2.2.2.1, xy.drew.six.2.2.2.2.2.1⟩ (fun hS => ?_)
            (refine tk 0 hS ?_; (try simp only [Act.put, layA, layB, layC]))
            (refine tk 1 hS ?_; (try simp only [Act.put, layA, layB, layC]))
            (refine tk 2 hS ?_; (try simp only [Act.put, layA, layB, layC]))
            (refine tk 3 hS ?_; (try simp only [Act.put, layA, layB, layC]))
            (refine tk 4 hS ?_; (try simp only [Act.put, layA, layB, layC]))
            (refine tk 5 hS ?_; (try simp only [Act.put, layA, layB, layC]))
            (refine tk 7 hS ?_; (try simp only [Act.put, layA, layB, layC]))
            (refine tk 8 hS ?_; (try simp only [Act.put, layA, layB, layC]))
            (refine tk 9 hS ?_; (try simp only [Act.put, layA, layB, layC]))
            refine on 6 ?_
            refine callH (by go_simp; (first | done | with_reducible rfl | exact ⟨rfl, rfl⟩)) ?_
            go_at_call 121
            refine (sl24Value_L kI0 (RdL.b kH) kL1n (RdL.b (ls := [((.slice xA2 xn2 xc2), .ints xL2), ((.slice xA3 xn3 xc3), .ints xL3)]) (RdL.sub xH (by simp))) xL2n xL3n).mono ?_
            rintro e w7 ⟨rfl, b7⟩
            clear hS
            have z7 := Below.size b7
            (try simp only [World.size_alloc, World.size_setCell, size_drew] at z7)
            have B7 : Below w.heap.size w w7 := Below.t b7
            have xk_ : Box w7 (w.heap.size) #[.int .i64 kI0, (.slice kA1 kn1 kc1)] 33 := (Box.b xk.drew b7)
            clear xk; have xk := xk_; clear xk_
            have xx_ : Box w7 (w.heap.size + 1) #[(.slice xA0 xn0 xc0), (.slice xA1 xn1 xc1), (.slice xA2 xn2 xc2), (.slice xA3 xn3 xc3), (.slice xA4 xn4 xc4), (.slice xA5 xn5 xc5)] 68 := (Box.b xx.drew b7)
            clear xx; have xx := xx_; clear xx_
            have xy_ : Box w7 (w.heap.size + 1 + 1) #[(.slice yA0 yn0 yc0), (.slice yA1 yn1 yc1), (.slice yA2 yn2 yc2), (.slice yA3 yn3 yc3), (.slice yA4 yn4 yc4), (.slice yA5 yn5 yc5)] 68 := (Box.b xy.drew b7)
            clear xy; have xy := xy_; clear xy_
            have xr_ : Box w7 (w.heap.size + 1 + 1 + 1) #[.int .i64 0, .int .i64 0] 73 := (Box.b xr.drew b7)
            clear xr; have xr := xr_; clear xr_
            refine ⟨_, rfl, ⟨xk.two.1, xk.two.2.1, xx.six.1, xx.six.2.1, xx.six.2.2.1, xx.six.2.2.2.1, xx.six.2.2.2.2.1, xx.six.2.2.2.2.2.1, xy.six.1, xy.six.2.1, xy.six.2.2.1, xy.six.2.2.2.1, xy.six.2.2.2.2.1, xy.six.2.2.2.2.2.1⟩, fun hS => ?_⟩
            (try simp only [Act.put, layA, layB, layC])
            refine on 10 ?_
            refine callH (by go_simp; (first | done | with_reducible rfl | exact ⟨rfl, rfl⟩)) ?_
            go_at_call 121
            refine (sl24Value_L kI0 (RdL.b kH) kL1n (RdL.b (ls := [((.slice yA2 yn2 yc2), .ints yL2), ((.slice yA3 yn3 yc3), .ints yL3)]) (RdL.sub yH (by simp))) yL2n yL3n).mono ?_
            rintro e w8 ⟨rfl, b8⟩
            clear hS
            have z8 := Below.size b8
            (try simp only [World.size_alloc, World.size_setCell, size_drew] at z8)
            have B8 : Below w.heap.size w w8 := Below.t b8
            have xk_ : Box w8 (w.heap.size) #[.int .i64 kI0, (.slice kA1 kn1 kc1)] 33 := (Box.b xk b8)
            clear xk; have xk := xk_; clear xk_
            have xx_ : Box w8 (w.heap.size + 1) #[(.slice xA0 xn0 xc0), (.slice xA1 xn1 xc1), (.slice xA2 xn2 xc2), (.slice xA3 xn3 xc3), (.slice xA4 xn4 xc4), (.slice xA5 xn5 xc5)] 68 := (Box.b xx b8)
            clear xx; have xx := xx_; clear xx_
            have xy_ : Box w8 (w.heap.size + 1 + 1) #[(.slice yA0 yn0 yc0), (.slice yA1 yn1 yc1), (.slice yA2 yn2 yc2), (.slice yA3 yn3 yc3), (.slice yA4 yn4 yc4), (.slice yA5 yn5 yc5)] 68 := (Box.b xy b8)
            clear xy; have xy := xy_; clear xy_
            have xr_ : Box w8 (w.heap.size + 1 + 1 + 1) #[.int .i64 0, .int .i64 0] 73 := (Box.b xr b8)
            clear xr; have xr := xr_; clear xr_
            refine ⟨_, rfl, ⟨xk.two.1, xk.two.2.1, xx.six.1, xx.six.2.1, xx.six.2.2.1, xx.six.2.2.2.1, xx.six.2.2.2.2.1, xx.six.2.2.2.2.2.1, xy.six.1, xy.six.2.1, xy.six.2.2.1, xy.six.2.2.2.1, xy.six.2.2.2.2.1, xy.six.2.2.2.2.2.1⟩, fun hS => ?_⟩
            (try simp only [Act.put, layA, layB, layC])
            refine on 11 ?_
            refine callH (by go_simp; (first | done | with_reducible rfl | exact ⟨rfl, rfl⟩)) ?_
            go_at_call 88
            refine (sFSub_any _ _ _ _).mono ?_
            rintro e w_ ⟨rfl, rfl⟩
            refine ⟨_, rfl, hS, fun hS => ?_⟩
            (try simp only [Act.put, layA, layB, layC])
            (refine tk 12 hS ?_; (try simp only [Act.put, layA, layB, layC]))
            refine on 13 ?_
            obtain ⟨cxr_0, cxr_1, fxr_0, fxr_1⟩ := xr.two
            refine skipH (by go_simp; (first | done | with_reducible rfl | exact ⟨rfl, rfl⟩)) ?_ (fun hS_ => ?_)
            · exact ⟨((xk.far (by omega)).far (by omega)).two.1, ((xk.far (by omega)).far (by omega)).two.2.1, ((xx.far (by omega)).far (by omega)).six.1, ((xx.far (by omega)).far (by omega)).six.2.1, ((xx.far (by omega)).far (by omega)).six.2.2.1, ((xx.far (by omega)).far (by omega)).six.2.2.2.1, ((xx.far (by omega)).far (by omega)).six.2.2.2.2.1, ((xx.far (by omega)).far (by omega)).six.2.2.2.2.2.1, ((xy.far (by omega)).far (by omega)).six.1, ((xy.far (by omega)).far (by omega)).six.2.1, ((xy.far (by omega)).far (by omega)).six.2.2.1, ((xy.far (by omega)).far (by omega)).six.2.2.2.1, ((xy.far (by omega)).far (by omega)).six.2.2.2.2.1, ((xy.far (by omega)).far (by omega)).six.2.2.2.2.2.1⟩
            clear cxr_0 cxr_1 fxr_0 fxr_1
            clear hS
            have hS := hS_
            clear hS_
            (try simp only [Act.put, layA, layB, layC])
            (refine tk 14 hS ?_; (try simp only [Act.put, layA, layB, layC]))
            clear hS
            refine wpAnyH_done (by kernel_rfl) ?_ _
            obtain ⟨cxr_0, cxr_1, fxr_0, fxr_1⟩ := xr.two
            have l_xr_0 : w.heap.size + 1 + 1 + 1 < w8.heap.size := by omega
            go_wp2
            refine bodyPost_ret (v := .tuple #[.agg #[.int .i64 (fsub kI0 (fmul kI0 rI0 (fsum kI0 xL0)) (fsum kI0 yL0)), .int .i64 (fsub kI0 (fsum kI0 xL2) (fsum kI0 yL2))], .bool true]) ?_ rfl ⟨by rw [soD_yes HO, soE_yes HO, HO], ?_⟩
            · simp [results, Try.results66, go_sem, cxr_0, cxr_1, fxr_0, fxr_1, l_xr_0]
            · repeat (with_reducible (first | assumption | exact Below.refl _ _ | refine Below.alloc ?_ (by first | omega | (simp; done) | (simp; omega)) _ | refine Below.setCell ?_ (by first | omega | (simp; done) | (simp; omega)) _ | refine Below.drew ?_ | refine below_drewN ?_ _))
set_option maxRecDepth 100000 in
set_option maxHeartbeats 2000000 in
theorem iSacrificeOpen_L {kA1 : Option Addr} {kn1 kc1 : Nat} {kL1 : List Int} {xA0 : Option Addr} {xn0 xc0 : Nat} {xL0 : List Int} {xA1 : Option Addr} {xn1 xc1 : Nat} {xL1 : List Int} {xA2 : Option Addr} {xn2 xc2 : Nat} {xL2 : List Int} {xA3 : Option Addr} {xn3 xc3 : Nat} {xL3 : List Int} {xA4 : Option Addr} {xn4 xc4 : Nat} {xL4 : List Int} {xA5 : Option Addr} {xn5 xc5 : Nat} {xL5 : List Int} {yA0 : Option Addr} {yn0 yc0 : Nat} {yL0 : List Int} {yA1 : Option Addr} {yn1 yc1 : Nat} {yL1 : List Int} {yA2 : Option Addr} {yn2 yc2 : Nat} {yL2 : List Int} {yA3 : Option Addr} {yn3 yc3 : Nat} {yL3 : List Int} {yA4 : Option Addr} {yn4 yc4 : Nat} {yL4 : List Int} {yA5 : Option Addr} {yn5 yc5 : Nat} {yL5 : List Int} {w : World} (kI0 : Int) (kH : RdL w [((.slice kA1 kn1 kc1), .ints kL1)]) (kL1n : kL1.length ≤ 1048576) (xH : RdL w [((.slice xA0 xn0 xc0), .ints xL0), ((.slice xA1 xn1 xc1), .ints xL1), ((.slice xA2 xn2 xc2), .ints xL2), ((.slice xA3 xn3 xc3), .ints xL3), ((.slice xA4 xn4 xc4), .ints xL4), ((.slice xA5 xn5 xc5), .ints xL5)]) (xL0n : xL0.length ≤ 1048576) (xL1n : xL1.length ≤ 1048576) (xL2n : xL2.length ≤ 1048576) (xL3n : xL3.length ≤ 1048576) (xL4n : xL4.length ≤ 1048576) (xL5n : xL5.length ≤ 1048576) (yH : RdL w [((.slice yA0 yn0 yc0), .ints yL0), ((.slice yA1 yn1 yc1), .ints yL1), ((.slice yA2 yn2 yc2), .ints yL2), ((.slice yA3 yn3 yc3), .ints yL3), ((.slice yA4 yn4 yc4), .ints yL4), ((.slice yA5 yn5 yc5), .ints yL5)]) (yL0n : yL0.length ≤ 1048576) (yL1n : yL1.length ≤ 1048576) (yL2n : yL2.length ≤ 1048576) (yL3n : yL3.length ≤ 1048576) (yL4n : yL4.length ≤ 1048576) (yL5n : yL5.length ≤ 1048576) (rI0 : Int) :
    Calls Try.prog 67 #[.agg #[.int .i64 kI0, (.slice kA1 kn1 kc1)], .agg #[(.slice xA0 xn0 xc0), (.slice xA1 xn1 xc1), (.slice xA2 xn2 xc2), (.slice xA3 xn3 xc3), (.slice xA4 xn4 xc4), (.slice xA5 xn5 xc5)], .agg #[(.slice yA0 yn0 yc0), (.slice yA1 yn1 yc1), (.slice yA2 yn2 yc2), (.slice yA3 yn3 yc3), (.slice yA4 yn4 yc4), (.slice yA5 yn5 yc5)], .int .i64 rI0] w fun e w' => e = .returned (.tuple #[.agg #[.int .i64 (soD kI0 kL1 xL0 xL1 xL2 xL3 yL0 yL1 yL2 yL3 rI0), .int .i64 (soE kI0 kL1 xL0 xL1 xL2 xL3 yL0 yL1 yL2 yL3 rI0)], .bool (sOpOk kI0 kL1 xL0 xL1 xL2 xL3 yL0 yL1 yL2 yL3 rI0)]) ∧ Below w.heap.size w w' := by
  have kL1i : Ints w kA1 kn1 kL1 := Rd.toInts (kH ((.slice kA1 kn1 kc1), .ints kL1) (by simp))
  have kL1l := Lib.hid kL1i.len
  have kL1m : kn1 ≤ 1048576 := by rw [← kL1l.out]; exact kL1n
  have xL0i : Ints w xA0 xn0 xL0 := Rd.toInts (xH ((.slice xA0 xn0 xc0), .ints xL0) (by simp))
  have xL0l := Lib.hid xL0i.len
  have xL0m : xn0 ≤ 1048576 := by rw [← xL0l.out]; exact xL0n
  have xL1i : Ints w xA1 xn1 xL1 := Rd.toInts (xH ((.slice xA1 xn1 xc1), .ints xL1) (by simp))
  have xL1l := Lib.hid xL1i.len
  have xL1m : xn1 ≤ 1048576 := by rw [← xL1l.out]; exact xL1n
  have xL2i : Ints w xA2 xn2 xL2 := Rd.toInts (xH ((.slice xA2 xn2 xc2), .ints xL2) (by simp))
  have xL2l := Lib.hid xL2i.len
  have xL2m : xn2 ≤ 1048576 := by rw [← xL2l.out]; exact xL2n
  have xL3i : Ints w xA3 xn3 xL3 := Rd.toInts (xH ((.slice xA3 xn3 xc3), .ints xL3) (by simp))
  have xL3l := Lib.hid xL3i.len
  have xL3m : xn3 ≤ 1048576 := by rw [← xL3l.out]; exact xL3n
  have xL4i : Ints w xA4 xn4 xL4 := Rd.toInts (xH ((.slice xA4 xn4 xc4), .ints xL4) (by simp))
  have xL4l := Lib.hid xL4i.len
  have xL4m : xn4 ≤ 1048576 := by rw [← xL4l.out]; exact xL4n
  have xL5i : Ints w xA5 xn5 xL5 := Rd.toInts (xH ((.slice xA5 xn5 xc5), .ints xL5) (by simp))
  have xL5l := Lib.hid xL5i.len
  have xL5m : xn5 ≤ 1048576 := by rw [← xL5l.out]; exact xL5n
  have yL0i : Ints w yA0 yn0 yL0 := Rd.toInts (yH ((.slice yA0 yn0 yc0), .ints yL0) (by simp))
  have yL0l := Lib.hid yL0i.len
  have yL0m : yn0 ≤ 1048576 := by rw [← yL0l.out]; exact yL0n
  have yL1i : Ints w yA1 yn1 yL1 := Rd.toInts (yH ((.slice yA1 yn1 yc1), .ints yL1) (by simp))
  have yL1l := Lib.hid yL1i.len
  have yL1m : yn1 ≤ 1048576 := by rw [← yL1l.out]; exact yL1n
  have yL2i : Ints w yA2 yn2 yL2 := Rd.toInts (yH ((.slice yA2 yn2 yc2), .ints yL2) (by simp))
  have yL2l := Lib.hid yL2i.len
  have yL2m : yn2 ≤ 1048576 := by rw [← yL2l.out]; exact yL2n
  have yL3i : Ints w yA3 yn3 yL3 := Rd.toInts (yH ((.slice yA3 yn3 yc3), .ints yL3) (by simp))
  have yL3l := Lib.hid yL3i.len
  have yL3m : yn3 ≤ 1048576 := by rw [← yL3l.out]; exact yL3n
  have yL4i : Ints w yA4 yn4 yL4 := Rd.toInts (yH ((.slice yA4 yn4 yc4), .ints yL4) (by simp))
  have yL4l := Lib.hid yL4i.len
  have yL4m : yn4 ≤ 1048576 := by rw [← yL4l.out]; exact yL4n
  have yL5i : Ints w yA5 yn5 yL5 := Rd.toInts (yH ((.slice yA5 yn5 yc5), .ints yL5) (by simp))
  have yL5l := Lib.hid yL5i.len
  have yL5m : yn5 ≤ 1048576 := by rw [← yL5l.out]; exact yL5n
  cases k1 : form4 kI0 kL1 xL0 xL1 xL2 xL3 yL0 yL1 yL2 yL3 with
  | false =>
    have HO : sOpOk kI0 kL1 xL0 xL1 xL2 xL3 yL0 yL1 yL2 yL3 rI0 = false := by simp [sOpOk, k1]
    have k9 : isFormB kI0 kL1 [(xL0, xL1), (xL2, xL3), (yL0, yL1), (yL2, yL3)] = false := by rw [isFormB4]; exact k1
    go_enter Try.func67, Try.ntmps67
    go_wp2_with fail
    refine (isForm_any kI0 (RdL.b kH) kL1n _ 4 _ [(xL0, xL1), (xL2, xL3), (yL0, yL1), (yL2, yL3)] (AuthsAt.mk4 xL0i.b xL0m xL1i.b xL1m xL2i.b xL2m xL3i.b xL3m yL0i.b yL0m yL1i.b yL1m yL2i.b yL2m yL3i.b yL3m (by simp)) (by omega)).mono ?_
    rintro e w1 ⟨rfl, b1⟩
    have z1 := b1.size
    try simp only [World.size_alloc, World.size_setCell, size_drew] at z1
    have B1 : Below w.heap.size w w1 := Below.t b1
    have xk_ : Box w1 (w.heap.size) #[.int .i64 kI0, (.slice kA1 kn1 kc1)] 33 := (((((Box.new (g := w.heap.size) _ #[.int .i64 kI0, (.slice kA1 kn1 kc1)] 33 (by simp)).alloc _).alloc _).alloc _).alloc _).below b1 (by first | omega | (simp [size_drew]; done) | (simp [size_drew]; omega))
    have xk := xk_; clear xk_
    have xx_ : Box w1 (w.heap.size + 1) #[(.slice xA0 xn0 xc0), (.slice xA1 xn1 xc1), (.slice xA2 xn2 xc2), (.slice xA3 xn3 xc3), (.slice xA4 xn4 xc4), (.slice xA5 xn5 xc5)] 68 := ((((Box.new (g := w.heap.size + 1) _ #[(.slice xA0 xn0 xc0), (.slice xA1 xn1 xc1), (.slice xA2 xn2 xc2), (.slice xA3 xn3 xc3), (.slice xA4 xn4 xc4), (.slice xA5 xn5 xc5)] 68 (by simp)).alloc _).alloc _).alloc _).below b1 (by first | omega | (simp [size_drew]; done) | (simp [size_drew]; omega))
    have xx := xx_; clear xx_
    have xy_ : Box w1 (w.heap.size + 1 + 1) #[(.slice yA0 yn0 yc0), (.slice yA1 yn1 yc1), (.slice yA2 yn2 yc2), (.slice yA3 yn3 yc3), (.slice yA4 yn4 yc4), (.slice yA5 yn5 yc5)] 68 := (((Box.new (g := w.heap.size + 1 + 1) _ #[(.slice yA0 yn0 yc0), (.slice yA1 yn1 yc1), (.slice yA2 yn2 yc2), (.slice yA3 yn3 yc3), (.slice yA4 yn4 yc4), (.slice yA5 yn5 yc5)] 68 (by simp)).alloc _).alloc _).below b1 (by first | omega | (simp [size_drew]; done) | (simp [size_drew]; omega))
    have xy := xy_; clear xy_
    have xr_ : Box w1 (w.heap.size + 1 + 1 + 1) #[.int .i64 0, .int .i64 0] 73 := ((Box.new (g := w.heap.size + 1 + 1 + 1) _ #[.int .i64 0, .int .i64 0] 73 (by simp)).alloc _).below b1 (by first | omega | (simp [size_drew]; done) | (simp [size_drew]; omega))
    have xr := xr_; clear xr_
    have xlit_ : Box w1 (w.heap.size + 1 + 1 + 1 + 1) #[(.slice xA0 xn0 xc0), (.slice xA1 xn1 xc1), (.slice xA2 xn2 xc2), (.slice xA3 xn3 xc3), (.slice yA0 yn0 yc0), (.slice yA1 yn1 yc1), (.slice yA2 yn2 yc2), (.slice yA3 yn3 yc3)] 38 := (Box.new (g := w.heap.size + 1 + 1 + 1 + 1) _ #[(.slice xA0 xn0 xc0), (.slice xA1 xn1 xc1), (.slice xA2 xn2 xc2), (.slice xA3 xn3 xc3), (.slice yA0 yn0 yc0), (.slice yA1 yn1 yc1), (.slice yA2 yn2 yc2), (.slice yA3 yn3 yc3)] 38 (by simp)).below b1 (by first | omega | (simp [size_drew]; done) | (simp [size_drew]; omega))
    have xlit := xlit_; clear xlit_
    obtain ⟨cxr_0, cxr_1, fxr_0, fxr_1⟩ := xr.two
    have l_xr_0 : w.heap.size + 1 + 1 + 1 < w1.heap.size := by omega
    go_wp2
    refine bodyPost_ret (v := .tuple #[.agg #[.int .i64 (0), .int .i64 (0)], .bool false]) ?_ rfl ⟨by rw [soD_no HO, soE_no HO, HO], ?_⟩
    · simp [results, Try.results67, go_sem, cxr_0, cxr_1, fxr_0, fxr_1, l_xr_0]
    · repeat (with_reducible (first | assumption | exact Below.refl _ _ | refine Below.alloc ?_ (by first | omega | (simp; done) | (simp; omega)) _ | refine Below.setCell ?_ (by first | omega | (simp; done) | (simp; omega)) _ | refine Below.drew ?_ | refine below_drewN ?_ _))
  | true =>
    cases k2 : elem kI0 rI0 with
    | false =>
      have HO : sOpOk kI0 kL1 xL0 xL1 xL2 xL3 yL0 yL1 yL2 yL3 rI0 = false := by simp [sOpOk, k1, k2]
      have k9 : isFormB kI0 kL1 [(xL0, xL1), (xL2, xL3), (yL0, yL1), (yL2, yL3)] = true := by rw [isFormB4]; exact k1
      go_enter Try.func67, Try.ntmps67
      go_wp2_with fail
      refine (isForm_any kI0 (RdL.b kH) kL1n _ 4 _ [(xL0, xL1), (xL2, xL3), (yL0, yL1), (yL2, yL3)] (AuthsAt.mk4 xL0i.b xL0m xL1i.b xL1m xL2i.b xL2m xL3i.b xL3m yL0i.b yL0m yL1i.b yL1m yL2i.b yL2m yL3i.b yL3m (by simp)) (by omega)).mono ?_
      rintro e w1 ⟨rfl, b1⟩
      have z1 := b1.size
      try simp only [World.size_alloc, World.size_setCell, size_drew] at z1
      have B1 : Below w.heap.size w w1 := Below.t b1
      have xk_ : Box w1 (w.heap.size) #[.int .i64 kI0, (.slice kA1 kn1 kc1)] 33 := (((((Box.new (g := w.heap.size) _ #[.int .i64 kI0, (.slice kA1 kn1 kc1)] 33 (by simp)).alloc _).alloc _).alloc _).alloc _).below b1 (by first | omega | (simp [size_drew]; done) | (simp [size_drew]; omega))
      have xk := xk_; clear xk_
      have xx_ : Box w1 (w.heap.size + 1) #[(.slice xA0 xn0 xc0), (.slice xA1 xn1 xc1), (.slice xA2 xn2 xc2), (.slice xA3 xn3 xc3), (.slice xA4 xn4 xc4), (.slice xA5 xn5 xc5)] 68 := ((((Box.new (g := w.heap.size + 1) _ #[(.slice xA0 xn0 xc0), (.slice xA1 xn1 xc1), (.slice xA2 xn2 xc2), (.slice xA3 xn3 xc3), (.slice xA4 xn4 xc4), (.slice xA5 xn5 xc5)] 68 (by simp)).alloc _).alloc _).alloc _).below b1 (by first | omega | (simp [size_drew]; done) | (simp [size_drew]; omega))
      have xx := xx_; clear xx_
      have xy_ : Box w1 (w.heap.size + 1 + 1) #[(.slice yA0 yn0 yc0), (.slice yA1 yn1 yc1), (.slice yA2 yn2 yc2), (.slice yA3 yn3 yc3), (.slice yA4 yn4 yc4), (.slice yA5 yn5 yc5)] 68 := (((Box.new (g := w.heap.size + 1 + 1) _ #[(.slice yA0 yn0 yc0), (.slice yA1 yn1 yc1), (.slice yA2 yn2 yc2), (.slice yA3 yn3 yc3), (.slice yA4 yn4 yc4), (.slice yA5 yn5 yc5)] 68 (by simp)).alloc _).alloc _).below b1 (by first | omega | (simp [size_drew]; done) | (simp [size_drew]; omega))
      have xy := xy_; clear xy_
      have xr_ : Box w1 (w.heap.size + 1 + 1 + 1) #[.int .i64 0, .int .i64 0] 73 := ((Box.new (g := w.heap.size + 1 + 1 + 1) _ #[.int .i64 0, .int .i64 0] 73 (by simp)).alloc _).below b1 (by first | omega | (simp [size_drew]; done) | (simp [size_drew]; omega))
      have xr := xr_; clear xr_
      have xlit_ : Box w1 (w.heap.size + 1 + 1 + 1 + 1) #[(.slice xA0 xn0 xc0), (.slice xA1 xn1 xc1), (.slice xA2 xn2 xc2), (.slice xA3 xn3 xc3), (.slice yA0 yn0 yc0), (.slice yA1 yn1 yc1), (.slice yA2 yn2 yc2), (.slice yA3 yn3 yc3)] 38 := (Box.new (g := w.heap.size + 1 + 1 + 1 + 1) _ #[(.slice xA0 xn0 xc0), (.slice xA1 xn1 xc1), (.slice xA2 xn2 xc2), (.slice xA3 xn3 xc3), (.slice yA0 yn0 yc0), (.slice yA1 yn1 yc1), (.slice yA2 yn2 yc2), (.slice yA3 yn3 yc3)] 38 (by simp)).below b1 (by first | omega | (simp [size_drew]; done) | (simp [size_drew]; omega))
      have xlit := xlit_; clear xlit_
      obtain ⟨cxk_0, cxk_1, fxk_0, fxk_1⟩ := xk.two
      have l_xk_0 : w.heap.size < w1.heap.size := by omega
      go_wp2_with fail
      refine (iIsElement_any _ _ _).mono ?_
      rintro e w_ ⟨rfl, rfl⟩
      obtain ⟨cxr_0, cxr_1, fxr_0, fxr_1⟩ := xr.two
      have l_xr_0 : w.heap.size + 1 + 1 + 1 < w1.heap.size := by omega
      go_wp2
      refine bodyPost_ret (v := .tuple #[.agg #[.int .i64 (0), .int .i64 (0)], .bool false]) ?_ rfl ⟨by rw [soD_no HO, soE_no HO, HO], ?_⟩
      · simp [results, Try.results67, go_sem, cxr_0, cxr_1, fxr_0, fxr_1, l_xr_0]
      · repeat (with_reducible (first | assumption | exact Below.refl _ _ | refine Below.alloc ?_ (by first | omega | (simp; done) | (simp; omega)) _ | refine Below.setCell ?_ (by first | omega | (simp; done) | (simp; omega)) _ | refine Below.drew ?_ | refine below_drewN ?_ _))
    | true =>
      have HO : sOpOk kI0 kL1 xL0 xL1 xL2 xL3 yL0 yL1 yL2 yL3 rI0 = true := by simp [sOpOk, k1, k2]
      have k9 : isFormB kI0 kL1 [(xL0, xL1), (xL2, xL3), (yL0, yL1), (yL2, yL3)] = true := by rw [isFormB4]; exact k1
      go_enter Try.func67, Try.ntmps67
      go_wp2_with fail
      refine (isForm_any kI0 (RdL.b kH) kL1n _ 4 _ [(xL0, xL1), (xL2, xL3), (yL0, yL1), (yL2, yL3)] (AuthsAt.mk4 xL0i.b xL0m xL1i.b xL1m xL2i.b xL2m xL3i.b xL3m yL0i.b yL0m yL1i.b yL1m yL2i.b yL2m yL3i.b yL3m (by simp)) (by omega)).mono ?_
      rintro e w1 ⟨rfl, b1⟩
      have z1 := b1.size
      try simp only [World.size_alloc, World.size_setCell, size_drew] at z1
      have B1 : Below w.heap.size w w1 := Below.t b1
      have xk_ : Box w1 (w.heap.size) #[.int .i64 kI0, (.slice kA1 kn1 kc1)] 33 := (((((Box.new (g := w.heap.size) _ #[.int .i64 kI0, (.slice kA1 kn1 kc1)] 33 (by simp)).alloc _).alloc _).alloc _).alloc _).below b1 (by first | omega | (simp [size_drew]; done) | (simp [size_drew]; omega))
      have xk := xk_; clear xk_
      have xx_ : Box w1 (w.heap.size + 1) #[(.slice xA0 xn0 xc0), (.slice xA1 xn1 xc1), (.slice xA2 xn2 xc2), (.slice xA3 xn3 xc3), (.slice xA4 xn4 xc4), (.slice xA5 xn5 xc5)] 68 := ((((Box.new (g := w.heap.size + 1) _ #[(.slice xA0 xn0 xc0), (.slice xA1 xn1 xc1), (.slice xA2 xn2 xc2), (.slice xA3 xn3 xc3), (.slice xA4 xn4 xc4), (.slice xA5 xn5 xc5)] 68 (by simp)).alloc _).alloc _).alloc _).below b1 (by first | omega | (simp [size_drew]; done) | (simp [size_drew]; omega))
      have xx := xx_; clear xx_
      have xy_ : Box w1 (w.heap.size + 1 + 1) #[(.slice yA0 yn0 yc0), (.slice yA1 yn1 yc1), (.slice yA2 yn2 yc2), (.slice yA3 yn3 yc3), (.slice yA4 yn4 yc4), (.slice yA5 yn5 yc5)] 68 := (((Box.new (g := w.heap.size + 1 + 1) _ #[(.slice yA0 yn0 yc0), (.slice yA1 yn1 yc1), (.slice yA2 yn2 yc2), (.slice yA3 yn3 yc3), (.slice yA4 yn4 yc4), (.slice yA5 yn5 yc5)] 68 (by simp)).alloc _).alloc _).below b1 (by first | omega | (simp [size_drew]; done) | (simp [size_drew]; omega))
      have xy := xy_; clear xy_
      have xr_ : Box w1 (w.heap.size + 1 + 1 + 1) #[.int .i64 0, .int .i64 0] 73 := ((Box.new (g := w.heap.size + 1 + 1 + 1) _ #[.int .i64 0, .int .i64 0] 73 (by simp)).alloc _).below b1 (by first | omega | (simp [size_drew]; done) | (simp [size_drew]; omega))
      have xr := xr_; clear xr_
      have xlit_ : Box w1 (w.heap.size + 1 + 1 + 1 + 1) #[(.slice xA0 xn0 xc0), (.slice xA1 xn1 xc1), (.slice xA2 xn2 xc2), (.slice xA3 xn3 xc3), (.slice yA0 yn0 yc0), (.slice yA1 yn1 yc1), (.slice yA2 yn2 yc2), (.slice yA3 yn3 yc3)] 38 := (Box.new (g := w.heap.size + 1 + 1 + 1 + 1) _ #[(.slice xA0 xn0 xc0), (.slice xA1 xn1 xc1), (.slice xA2 xn2 xc2), (.slice xA3 xn3 xc3), (.slice yA0 yn0 yc0), (.slice yA1 yn1 yc1), (.slice yA2 yn2 yc2), (.slice yA3 yn3 yc3)] 38 (by simp)).below b1 (by first | omega | (simp [size_drew]; done) | (simp [size_drew]; omega))
      have xlit := xlit_; clear xlit_
      obtain ⟨cxk_0, cxk_1, fxk_0, fxk_1⟩ := xk.two
      have l_xk_0 : w.heap.size < w1.heap.size := by omega
      go_wp2_with fail
      refine (iIsElement_any _ _ _).mono ?_
      rintro e w_ ⟨rfl, rfl⟩
      obtain ⟨cxk_0, cxk_1, fxk_0, fxk_1⟩ := xk.two
      have l_xk_0 : w.heap.size < w1.heap.size := by omega
      obtain ⟨cxx_0, cxx_1, cxx_2, cxx_3, cxx_4, cxx_5, fxx_0, fxx_1, fxx_2, fxx_3, fxx_4, fxx_5⟩ := xx.six
      have l_xx_0 : w.heap.size + 1 < w1.heap.size := by omega
      obtain ⟨cxy_0, cxy_1, cxy_2, cxy_3, cxy_4, cxy_5, fxy_0, fxy_1, fxy_2, fxy_3, fxy_4, fxy_5⟩ := xy.six
      have l_xy_0 : w.heap.size + 1 + 1 < w1.heap.size := by omega
      go_wp2_with fail
      clear cxk_0 cxk_1 fxk_0 fxk_1 l_xk_0 cxx_0 cxx_1 cxx_2 cxx_3 cxx_4 cxx_5 fxx_0 fxx_1 fxx_2 fxx_3 fxx_4 fxx_5 l_xx_0 cxy_0 cxy_1 cxy_2 cxy_3 cxy_4 cxy_5 fxy_0 fxy_1 fxy_2 fxy_3 fxy_4 fxy_5 l_xy_0
      refine wp_region_held_drew (S := fun W => W.cell? ⟨w.heap.size, 0, none⟩ = some (.int .i64 kI0) ∧ W.cell? ⟨w.heap.size, 1, none⟩ = some ((.slice kA1 kn1 kc1)) ∧ W.cell? ⟨w.heap.size + 1, 0, none⟩ = some ((.slice xA0 xn0 xc0)) ∧ W.cell? ⟨w.heap.size + 1, 1, none⟩ = some ((.slice xA1 xn1 xc1)) ∧ W.cell? ⟨w.heap.size + 1, 2, none⟩ = some ((.slice xA2 xn2 xc2)) ∧ W.cell? ⟨w.heap.size + 1, 3, none⟩ = some ((.slice xA3 xn3 xc3)) ∧ W.cell? ⟨w.heap.size + 1, 4, none⟩ = some ((.slice xA4 xn4 xc4)) ∧ W.cell? ⟨w.heap.size + 1, 5, none⟩ = some ((.slice xA5 xn5 xc5)) ∧ W.cell? ⟨w.heap.size + 1 + 1, 0, none⟩ = some ((.slice yA0 yn0 yc0)) ∧ W.cell? ⟨w.heap.size + 1 + 1, 1, none⟩ = some ((.slice yA1 yn1 yc1)) ∧ W.cell? ⟨w.heap.size + 1 + 1, 2, none⟩ = some ((.slice yA2 yn2 yc2)) ∧ W.cell? ⟨w.heap.size + 1 + 1, 3, none⟩ = some ((.slice yA3 yn3 yc3)) ∧ W.cell? ⟨w.heap.size + 1 + 1, 4, none⟩ = some ((.slice yA4 yn4 yc4)) ∧ W.cell? ⟨w.heap.size + 1 + 1, 5, none⟩ = some ((.slice yA5 yn5 yc5))) (by kernel_rfl) ⟨xk.drew.two.1, xk.drew.two.2.1, xx.drew.six.1, xx.drew.six.2.1, xx.drew.six.2.2.1, xx.drew.six.2.2.2.1, xx.drew.six.2.2.2.2.1, xx.drew.six.2.2.2.2.2.1, xy.drew.six.1, xy.drew.six.2.1, xy.drew.six.2.2.1, xy.drew.six.2.2.2.1, xy.drew.six.2.2.2.2.1, xy.drew.six.2.2.2.2.2.1⟩ (fun hS => ?_)
      (refine tk 0 hS ?_; (try simp only [Act.put, layA, layB, layC]))
      (refine tk 1 hS ?_; (try simp only [Act.put, layA, layB, layC]))
      (refine tk 2 hS ?_; (try simp only [Act.put, layA, layB, layC]))
      (refine tk 3 hS ?_; (try simp only [Act.put, layA, layB, layC]))
      (refine tk 4 hS ?_; (try simp only [Act.put, layA, layB, layC]))
      (refine tk 5 hS ?_; (try simp only [Act.put, layA, layB, layC]))
      (refine tk 8 hS ?_; (try simp only [Act.put, layA, layB, layC]))
      (refine tk 9 hS ?_; (try simp only [Act.put, layA, layB, layC]))
      (refine tk 10 hS ?_; (try simp only [Act.put, layA, layB, layC]))
      (refine tk 13 hS ?_; (try simp only [Act.put, layA, layB, layC]))
      (refine tk 14 hS ?_; (try simp only [Act.put, layA, layB, layC]))
      (refine tk 15 hS ?_; (try simp only [Act.put, layA, layB, layC]))
      (refine tk 16 hS ?_; (try simp only [Act.put, layA, layB, layC]))
      (refine tk 18 hS ?_; (try simp only [Act.put, layA, layB, layC]))
      (refine tk 19 hS ?_; (try simp only [Act.put, layA, layB, layC]))
      (refine tk 20 hS ?_; (try simp only [Act.put, layA, layB, layC]))
      refine on 6 ?_
      refine callH (by go_simp; (first | done | with_reducible rfl | exact ⟨rfl, rfl⟩)) ?_
      go_at_call 109
      refine (ivalueIn_L kI0 (RdL.b kH) kL1n (RdL.b (ls := [((.slice xA0 xn0 xc0), .ints xL0), ((.slice xA1 xn1 xc1), .ints xL1)]) (RdL.sub xH (by simp))) xL0n xL1n).mono ?_
      rintro e w2 ⟨rfl, b2⟩
      clear hS
      have z2 := Below.size b2
      (try simp only [World.size_alloc, World.size_setCell, size_drew] at z2)
      have B2 : Below w.heap.size w w2 := Below.t b2
      have xk_ : Box w2 (w.heap.size) #[.int .i64 kI0, (.slice kA1 kn1 kc1)] 33 := (Box.b xk.drew b2)
      clear xk; have xk := xk_; clear xk_
      have xx_ : Box w2 (w.heap.size + 1) #[(.slice xA0 xn0 xc0), (.slice xA1 xn1 xc1), (.slice xA2 xn2 xc2), (.slice xA3 xn3 xc3), (.slice xA4 xn4 xc4), (.slice xA5 xn5 xc5)] 68 := (Box.b xx.drew b2)
      clear xx; have xx := xx_; clear xx_
      have xy_ : Box w2 (w.heap.size + 1 + 1) #[(.slice yA0 yn0 yc0), (.slice yA1 yn1 yc1), (.slice yA2 yn2 yc2), (.slice yA3 yn3 yc3), (.slice yA4 yn4 yc4), (.slice yA5 yn5 yc5)] 68 := (Box.b xy.drew b2)
      clear xy; have xy := xy_; clear xy_
      have xr_ : Box w2 (w.heap.size + 1 + 1 + 1) #[.int .i64 0, .int .i64 0] 73 := (Box.b xr.drew b2)
      clear xr; have xr := xr_; clear xr_
      refine ⟨_, rfl, ⟨xk.two.1, xk.two.2.1, xx.six.1, xx.six.2.1, xx.six.2.2.1, xx.six.2.2.2.1, xx.six.2.2.2.2.1, xx.six.2.2.2.2.2.1, xy.six.1, xy.six.2.1, xy.six.2.2.1, xy.six.2.2.2.1, xy.six.2.2.2.2.1, xy.six.2.2.2.2.2.1⟩, fun hS => ?_⟩
      (try simp only [Act.put, layA, layB, layC])
      refine on 7 ?_
      refine callH (by go_simp; (first | done | with_reducible rfl | exact ⟨rfl, rfl⟩)) ?_
      go_at_call 101
      refine (iFMul_any _ _ _ _).mono ?_
      rintro e w3 ⟨rfl, b3⟩
      clear hS
      have z3 := Below.size b3
      (try simp only [World.size_alloc, World.size_setCell, size_drew] at z3)
      have B3 : Below w.heap.size w w3 := Below.t b3
      have xk_ : Box w3 (w.heap.size) #[.int .i64 kI0, (.slice kA1 kn1 kc1)] 33 := (Box.b xk b3)
      clear xk; have xk := xk_; clear xk_
      have xx_ : Box w3 (w.heap.size + 1) #[(.slice xA0 xn0 xc0), (.slice xA1 xn1 xc1), (.slice xA2 xn2 xc2), (.slice xA3 xn3 xc3), (.slice xA4 xn4 xc4), (.slice xA5 xn5 xc5)] 68 := (Box.b xx b3)
      clear xx; have xx := xx_; clear xx_
      have xy_ : Box w3 (w.heap.size + 1 + 1) #[(.slice yA0 yn0 yc0), (.slice yA1 yn1 yc1), (.slice yA2 yn2 yc2), (.slice yA3 yn3 yc3), (.slice yA4 yn4 yc4), (.slice yA5 yn5 yc5)] 68 := (Box.b xy b3)
      clear xy; have xy := xy_; clear xy_
      have xr_ : Box w3 (w.heap.size + 1 + 1 + 1) #[.int .i64 0, .int .i64 0] 73 := (Box.b xr b3)
      clear xr; have xr := xr_; clear xr_
      refine ⟨_, rfl, ⟨xk.two.1, xk.two.2.1, xx.six.1, xx.six.2.1, xx.six.2.2.1, xx.six.2.2.2.1, xx.six.2.2.2.2.1, xx.six.2.2.2.2.2.1, xy.six.1, xy.six.2.1, xy.six.2.2.1, xy.six.2.2.2.1, xy.six.2.2.2.2.1, xy.six.2.2.2.2.2.1⟩, fun hS => ?_⟩
      (try simp only [Act.put, layA, layB, layC])
      refine on 11 ?_
      refine callH (by go_simp; (first | done | with_reducible rfl | exact ⟨rfl, rfl⟩)) ?_
      go_at_call 109
      refine (ivalueIn_L kI0 (RdL.b kH) kL1n (RdL.b (ls := [((.slice yA0 yn0 yc0), .ints yL0), ((.slice yA1 yn1 yc1), .ints yL1)]) (RdL.sub yH (by simp))) yL0n yL1n).mono ?_
      rintro e w4 ⟨rfl, b4⟩
      clear hS
      have z4 := Below.size b4
      (try simp only [World.size_alloc, World.size_setCell, size_drew] at z4)
      have B4 : Below w.heap.size w w4 := Below.t b4
      have xk_ : Box w4 (w.heap.size) #[.int .i64 kI0, (.slice kA1 kn1 kc1)] 33 := (Box.b xk b4)
      clear xk; have xk := xk_; clear xk_
      have xx_ : Box w4 (w.heap.size + 1) #[(.slice xA0 xn0 xc0), (.slice xA1 xn1 xc1), (.slice xA2 xn2 xc2), (.slice xA3 xn3 xc3), (.slice xA4 xn4 xc4), (.slice xA5 xn5 xc5)] 68 := (Box.b xx b4)
      clear xx; have xx := xx_; clear xx_
      have xy_ : Box w4 (w.heap.size + 1 + 1) #[(.slice yA0 yn0 yc0), (.slice yA1 yn1 yc1), (.slice yA2 yn2 yc2), (.slice yA3 yn3 yc3), (.slice yA4 yn4 yc4), (.slice yA5 yn5 yc5)] 68 := (Box.b xy b4)
      clear xy; have xy := xy_; clear xy_
      have xr_ : Box w4 (w.heap.size + 1 + 1 + 1) #[.int .i64 0, .int .i64 0] 73 := (Box.b xr b4)
      clear xr; have xr := xr_; clear xr_
      refine ⟨_, rfl, ⟨xk.two.1, xk.two.2.1, xx.six.1, xx.six.2.1, xx.six.2.2.1, xx.six.2.2.2.1, xx.six.2.2.2.2.1, xx.six.2.2.2.2.2.1, xy.six.1, xy.six.2.1, xy.six.2.2.1, xy.six.2.2.2.1, xy.six.2.2.2.2.1, xy.six.2.2.2.2.2.1⟩, fun hS => ?_⟩
      (try simp only [Act.put, layA, layB, layC])
      refine on 12 ?_
      refine callH (by go_simp; (first | done | with_reducible rfl | exact ⟨rfl, rfl⟩)) ?_
      go_at_call 122
      refine (iFSub_any _ _ _ _).mono ?_
      rintro e w5 ⟨rfl, b5⟩
      clear hS
      have z5 := Below.size b5
      (try simp only [World.size_alloc, World.size_setCell, size_drew] at z5)
      have B5 : Below w.heap.size w w5 := Below.t b5
      have xk_ : Box w5 (w.heap.size) #[.int .i64 kI0, (.slice kA1 kn1 kc1)] 33 := (Box.b xk b5)
      clear xk; have xk := xk_; clear xk_
      have xx_ : Box w5 (w.heap.size + 1) #[(.slice xA0 xn0 xc0), (.slice xA1 xn1 xc1), (.slice xA2 xn2 xc2), (.slice xA3 xn3 xc3), (.slice xA4 xn4 xc4), (.slice xA5 xn5 xc5)] 68 := (Box.b xx b5)
      clear xx; have xx := xx_; clear xx_
      have xy_ : Box w5 (w.heap.size + 1 + 1) #[(.slice yA0 yn0 yc0), (.slice yA1 yn1 yc1), (.slice yA2 yn2 yc2), (.slice yA3 yn3 yc3), (.slice yA4 yn4 yc4), (.slice yA5 yn5 yc5)] 68 := (Box.b xy b5)
      clear xy; have xy := xy_; clear xy_
      have xr_ : Box w5 (w.heap.size + 1 + 1 + 1) #[.int .i64 0, .int .i64 0] 73 := (Box.b xr b5)
      clear xr; have xr := xr_; clear xr_
      refine ⟨_, rfl, ⟨xk.two.1, xk.two.2.1, xx.six.1, xx.six.2.1, xx.six.2.2.1, xx.six.2.2.2.1, xx.six.2.2.2.2.1, xx.six.2.2.2.2.2.1, xy.six.1, xy.six.2.1, xy.six.2.2.1, xy.six.2.2.2.1, xy.six.2.2.2.2.1, xy.six.2.2.2.2.2.1⟩, fun hS => ?_⟩
      (try simp only [Act.put, layA, layB, layC])
      refine on 17 ?_
      refine callH (by go_simp; (first | done | with_reducible rfl | exact ⟨rfl, rfl⟩)) ?_
      go_at_call 109
      refine (ivalueIn_L kI0 (RdL.b kH) kL1n (RdL.b (ls := [((.slice xA2 xn2 xc2), .ints xL2), ((.slice xA3 xn3 xc3), .ints xL3)]) (RdL.sub xH (by simp))) xL2n xL3n).mono ?_
      rintro e w6 ⟨rfl, b6⟩
      clear hS
      have z6 := Below.size b6
      (try simp only [World.size_alloc, World.size_setCell, size_drew] at z6)
      have B6 : Below w.heap.size w w6 := Below.t b6
      have xk_ : Box w6 (w.heap.size) #[.int .i64 kI0, (.slice kA1 kn1 kc1)] 33 := (Box.b xk b6)
      clear xk; have xk := xk_; clear xk_
      have xx_ : Box w6 (w.heap.size + 1) #[(.slice xA0 xn0 xc0), (.slice xA1 xn1 xc1), (.slice xA2 xn2 xc2), (.slice xA3 xn3 xc3), (.slice xA4 xn4 xc4), (.slice xA5 xn5 xc5)] 68 := (Box.b xx b6)
      clear xx; have xx := xx_; clear xx_
      have xy_ : Box w6 (w.heap.size + 1 + 1) #[(.slice yA0 yn0 yc0), (.slice yA1 yn1 yc1), (.slice yA2 yn2 yc2), (.slice yA3 yn3 yc3), (.slice yA4 yn4 yc4), (.slice yA5 yn5 yc5)] 68 := (Box.b xy b6)
      clear xy; have xy := xy_; clear xy_
      have xr_ : Box w6 (w.heap.size + 1 + 1 + 1) #[.int .i64 0, .int .i64 0] 73 := (Box.b xr b6)
      clear xr; have xr := xr_; clear xr_
      refine ⟨_, rfl, ⟨xk.two.1, xk.two.2.1, xx.six.1, xx.six.2.1, xx.six.2.2.1, xx.six.2.2.2.1, xx.six.2.2.2.2.1, xx.six.2.2.2.2.2.1, xy.six.1, xy.six.2.1, xy.six.2.2.1, xy.six.2.2.2.1, xy.six.2.2.2.2.1, xy.six.2.2.2.2.2.1⟩, fun hS => ?_⟩
      (try simp only [Act.put, layA, layB, layC])
      refine on 21 ?_
      refine callH (by go_simp; (first | done | with_reducible rfl | exact ⟨rfl, rfl⟩)) ?_
      go_at_call 109
      refine (ivalueIn_L kI0 (RdL.b kH) kL1n (RdL.b (ls := [((.slice yA2 yn2 yc2), .ints yL2), ((.slice yA3 yn3 yc3), .ints yL3)]) (RdL.sub yH (by simp))) yL2n yL3n).mono ?_
      rintro e w7 ⟨rfl, b7⟩
      clear hS
      have z7 := Below.size b7
      (try simp only [World.size_alloc, World.size_setCell, size_drew] at z7)
      have B7 : Below w.heap.size w w7 := Below.t b7
      have xk_ : Box w7 (w.heap.size) #[.int .i64 kI0, (.slice kA1 kn1 kc1)] 33 := (Box.b xk b7)
      clear xk; have xk := xk_; clear xk_
      have xx_ : Box w7 (w.heap.size + 1) #[(.slice xA0 xn0 xc0), (.slice xA1 xn1 xc1), (.slice xA2 xn2 xc2), (.slice xA3 xn3 xc3), (.slice xA4 xn4 xc4), (.slice xA5 xn5 xc5)] 68 := (Box.b xx b7)
      clear xx; have xx := xx_; clear xx_
      have xy_ : Box w7 (w.heap.size + 1 + 1) #[(.slice yA0 yn0 yc0), (.slice yA1 yn1 yc1), (.slice yA2 yn2 yc2), (.slice yA3 yn3 yc3), (.slice yA4 yn4 yc4), (.slice yA5 yn5 yc5)] 68 := (Box.b xy b7)
      clear xy; have xy := xy_; clear xy_
      have xr_ : Box w7 (w.heap.size + 1 + 1 + 1) #[.int .i64 0, .int .i64 0] 73 := (Box.b xr b7)
      clear xr; have xr := xr_; clear xr_
      refine ⟨_, rfl, ⟨xk.two.1, xk.two.2.1, xx.six.1, xx.six.2.1, xx.six.2.2.1, xx.six.2.2.2.1, xx.six.2.2.2.2.1, xx.six.2.2.2.2.2.1, xy.six.1, xy.six.2.1, xy.six.2.2.1, xy.six.2.2.2.1, xy.six.2.2.2.2.1, xy.six.2.2.2.2.2.1⟩, fun hS => ?_⟩
      (try simp only [Act.put, layA, layB, layC])
      refine on 22 ?_
      refine callH (by go_simp; (first | done | with_reducible rfl | exact ⟨rfl, rfl⟩)) ?_
      go_at_call 122
      refine (iFSub_any _ _ _ _).mono ?_
      rintro e w8 ⟨rfl, b8⟩
      clear hS
      have z8 := Below.size b8
      (try simp only [World.size_alloc, World.size_setCell, size_drew] at z8)
      have B8 : Below w.heap.size w w8 := Below.t b8
      have xk_ : Box w8 (w.heap.size) #[.int .i64 kI0, (.slice kA1 kn1 kc1)] 33 := (Box.b xk b8)
      clear xk; have xk := xk_; clear xk_
      have xx_ : Box w8 (w.heap.size + 1) #[(.slice xA0 xn0 xc0), (.slice xA1 xn1 xc1), (.slice xA2 xn2 xc2), (.slice xA3 xn3 xc3), (.slice xA4 xn4 xc4), (.slice xA5 xn5 xc5)] 68 := (Box.b xx b8)
      clear xx; have xx := xx_; clear xx_
      have xy_ : Box w8 (w.heap.size + 1 + 1) #[(.slice yA0 yn0 yc0), (.slice yA1 yn1 yc1), (.slice yA2 yn2 yc2), (.slice yA3 yn3 yc3), (.slice yA4 yn4 yc4), (.slice yA5 yn5 yc5)] 68 := (Box.b xy b8)
      clear xy; have xy := xy_; clear xy_
      have xr_ : Box w8 (w.heap.size + 1 + 1 + 1) #[.int .i64 0, .int .i64 0] 73 := (Box.b xr b8)
      clear xr; have xr := xr_; clear xr_
      refine ⟨_, rfl, ⟨xk.two.1, xk.two.2.1, xx.six.1, xx.six.2.1, xx.six.2.2.1, xx.six.2.2.2.1, xx.six.2.2.2.2.1, xx.six.2.2.2.2.2.1, xy.six.1, xy.six.2.1, xy.six.2.2.1, xy.six.2.2.2.1, xy.six.2.2.2.2.1, xy.six.2.2.2.2.2.1⟩, fun hS => ?_⟩
      (try simp only [Act.put, layA, layB, layC])
      (refine tk 23 hS ?_; (try simp only [Act.put, layA, layB, layC]))
      refine on 24 ?_
      obtain ⟨cxr_0, cxr_1, fxr_0, fxr_1⟩ := xr.two
      refine skipH (by go_simp; (first | done | with_reducible rfl | exact ⟨rfl, rfl⟩)) ?_ (fun hS_ => ?_)
      · exact ⟨((xk.far (by omega)).far (by omega)).two.1, ((xk.far (by omega)).far (by omega)).two.2.1, ((xx.far (by omega)).far (by omega)).six.1, ((xx.far (by omega)).far (by omega)).six.2.1, ((xx.far (by omega)).far (by omega)).six.2.2.1, ((xx.far (by omega)).far (by omega)).six.2.2.2.1, ((xx.far (by omega)).far (by omega)).six.2.2.2.2.1, ((xx.far (by omega)).far (by omega)).six.2.2.2.2.2.1, ((xy.far (by omega)).far (by omega)).six.1, ((xy.far (by omega)).far (by omega)).six.2.1, ((xy.far (by omega)).far (by omega)).six.2.2.1, ((xy.far (by omega)).far (by omega)).six.2.2.2.1, ((xy.far (by omega)).far (by omega)).six.2.2.2.2.1, ((xy.far (by omega)).far (by omega)).six.2.2.2.2.2.1⟩
      clear cxr_0 cxr_1 fxr_0 fxr_1
      clear hS
      have hS := hS_
      clear hS_
      (try simp only [Act.put, layA, layB, layC])
      (refine tk 25 hS ?_; (try simp only [Act.put, layA, layB, layC]))
      clear hS
      refine wpAnyH_done (by kernel_rfl) ?_ _
      obtain ⟨cxr_0, cxr_1, fxr_0, fxr_1⟩ := xr.two
      have l_xr_0 : w.heap.size + 1 + 1 + 1 < w8.heap.size := by omega
      go_wp2
      refine bodyPost_ret (v := .tuple #[.agg #[.int .i64 (fsub kI0 (fmul kI0 rI0 (fsum kI0 xL0)) (fsum kI0 yL0)), .int .i64 (fsub kI0 (fsum kI0 xL2) (fsum kI0 yL2))], .bool true]) ?_ rfl ⟨by rw [soD_yes HO, soE_yes HO, HO], ?_⟩
      · simp [results, Try.results67, go_sem, cxr_0, cxr_1, fxr_0, fxr_1, l_xr_0]
      · repeat (with_reducible (first | assumption | exact Below.refl _ _ | refine Below.alloc ?_ (by first | omega | (simp; done) | (simp; omega)) _ | refine Below.setCell ?_ (by first | omega | (simp; done) | (simp; omega)) _ | refine Below.drew ?_ | refine below_drewN ?_ _))
set_option maxRecDepth 100000 in
set_option maxHeartbeats 2000000 in
theorem sSacrificeOk_L {kA1 : Option Addr} {kn1 kc1 : Nat} {kL1 : List Int} {xA0 : Option Addr} {xn0 xc0 : Nat} {xL0 : List Int} {xA1 : Option Addr} {xn1 xc1 : Nat} {xL1 : List Int} {xA2 : Option Addr} {xn2 xc2 : Nat} {xL2 : List Int} {xA3 : Option Addr} {xn3 xc3 : Nat} {xL3 : List Int} {xA4 : Option Addr} {xn4 xc4 : Nat} {xL4 : List Int} {xA5 : Option Addr} {xn5 xc5 : Nat} {xL5 : List Int} {yA0 : Option Addr} {yn0 yc0 : Nat} {yL0 : List Int} {yA1 : Option Addr} {yn1 yc1 : Nat} {yL1 : List Int} {yA2 : Option Addr} {yn2 yc2 : Nat} {yL2 : List Int} {yA3 : Option Addr} {yn3 yc3 : Nat} {yL3 : List Int} {yA4 : Option Addr} {yn4 yc4 : Nat} {yL4 : List Int} {yA5 : Option Addr} {yn5 yc5 : Nat} {yL5 : List Int} {w : World} (kI0 : Int) (kH : RdL w [((.slice kA1 kn1 kc1), .ints kL1)]) (kL1n : kL1.length ≤ 1048576) (xH : RdL w [((.slice xA0 xn0 xc0), .ints xL0), ((.slice xA1 xn1 xc1), .ints xL1), ((.slice xA2 xn2 xc2), .ints xL2), ((.slice xA3 xn3 xc3), .ints xL3), ((.slice xA4 xn4 xc4), .ints xL4), ((.slice xA5 xn5 xc5), .ints xL5)]) (xL0n : xL0.length ≤ 1048576) (xL1n : xL1.length ≤ 1048576) (xL2n : xL2.length ≤ 1048576) (xL3n : xL3.length ≤ 1048576) (xL4n : xL4.length ≤ 1048576) (xL5n : xL5.length ≤ 1048576) (yH : RdL w [((.slice yA0 yn0 yc0), .ints yL0), ((.slice yA1 yn1 yc1), .ints yL1), ((.slice yA2 yn2 yc2), .ints yL2), ((.slice yA3 yn3 yc3), .ints yL3), ((.slice yA4 yn4 yc4), .ints yL4), ((.slice yA5 yn5 yc5), .ints yL5)]) (yL0n : yL0.length ≤ 1048576) (yL1n : yL1.length ≤ 1048576) (yL2n : yL2.length ≤ 1048576) (yL3n : yL3.length ≤ 1048576) (yL4n : yL4.length ≤ 1048576) (yL5n : yL5.length ≤ 1048576) (rI0 : Int) :
    Calls Try.prog 68 #[.agg #[.int .i64 kI0, (.slice kA1 kn1 kc1)], .agg #[(.slice xA0 xn0 xc0), (.slice xA1 xn1 xc1), (.slice xA2 xn2 xc2), (.slice xA3 xn3 xc3), (.slice xA4 xn4 xc4), (.slice xA5 xn5 xc5)], .agg #[(.slice yA0 yn0 yc0), (.slice yA1 yn1 yc1), (.slice yA2 yn2 yc2), (.slice yA3 yn3 yc3), (.slice yA4 yn4 yc4), (.slice yA5 yn5 yc5)], .int .i64 rI0] w fun e w' => e = .returned (.bool (sacOk kI0 kL1 xL0 xL1 xL2 xL3 xL4 xL5 yL0 yL1 yL2 yL3 yL4 yL5 rI0)) ∧ Below w.heap.size w w' := by
  have kL1i : Ints w kA1 kn1 kL1 := Rd.toInts (kH ((.slice kA1 kn1 kc1), .ints kL1) (by simp))
  have kL1l := Lib.hid kL1i.len
  have kL1m : kn1 ≤ 1048576 := by rw [← kL1l.out]; exact kL1n
  have xL0i : Ints w xA0 xn0 xL0 := Rd.toInts (xH ((.slice xA0 xn0 xc0), .ints xL0) (by simp))
  have xL0l := Lib.hid xL0i.len
  have xL0m : xn0 ≤ 1048576 := by rw [← xL0l.out]; exact xL0n
  have xL1i : Ints w xA1 xn1 xL1 := Rd.toInts (xH ((.slice xA1 xn1 xc1), .ints xL1) (by simp))
  have xL1l := Lib.hid xL1i.len
  have xL1m : xn1 ≤ 1048576 := by rw [← xL1l.out]; exact xL1n
  have xL2i : Ints w xA2 xn2 xL2 := Rd.toInts (xH ((.slice xA2 xn2 xc2), .ints xL2) (by simp))
  have xL2l := Lib.hid xL2i.len
  have xL2m : xn2 ≤ 1048576 := by rw [← xL2l.out]; exact xL2n
  have xL3i : Ints w xA3 xn3 xL3 := Rd.toInts (xH ((.slice xA3 xn3 xc3), .ints xL3) (by simp))
  have xL3l := Lib.hid xL3i.len
  have xL3m : xn3 ≤ 1048576 := by rw [← xL3l.out]; exact xL3n
  have xL4i : Ints w xA4 xn4 xL4 := Rd.toInts (xH ((.slice xA4 xn4 xc4), .ints xL4) (by simp))
  have xL4l := Lib.hid xL4i.len
  have xL4m : xn4 ≤ 1048576 := by rw [← xL4l.out]; exact xL4n
  have xL5i : Ints w xA5 xn5 xL5 := Rd.toInts (xH ((.slice xA5 xn5 xc5), .ints xL5) (by simp))
  have xL5l := Lib.hid xL5i.len
  have xL5m : xn5 ≤ 1048576 := by rw [← xL5l.out]; exact xL5n
  have yL0i : Ints w yA0 yn0 yL0 := Rd.toInts (yH ((.slice yA0 yn0 yc0), .ints yL0) (by simp))
  have yL0l := Lib.hid yL0i.len
  have yL0m : yn0 ≤ 1048576 := by rw [← yL0l.out]; exact yL0n
  have yL1i : Ints w yA1 yn1 yL1 := Rd.toInts (yH ((.slice yA1 yn1 yc1), .ints yL1) (by simp))
  have yL1l := Lib.hid yL1i.len
  have yL1m : yn1 ≤ 1048576 := by rw [← yL1l.out]; exact yL1n
  have yL2i : Ints w yA2 yn2 yL2 := Rd.toInts (yH ((.slice yA2 yn2 yc2), .ints yL2) (by simp))
  have yL2l := Lib.hid yL2i.len
  have yL2m : yn2 ≤ 1048576 := by rw [← yL2l.out]; exact yL2n
  have yL3i : Ints w yA3 yn3 yL3 := Rd.toInts (yH ((.slice yA3 yn3 yc3), .ints yL3) (by simp))
  have yL3l := Lib.hid yL3i.len
  have yL3m : yn3 ≤ 1048576 := by rw [← yL3l.out]; exact yL3n
  have yL4i : Ints w yA4 yn4 yL4 := Rd.toInts (yH ((.slice yA4 yn4 yc4), .ints yL4) (by simp))
  have yL4l := Lib.hid yL4i.len
  have yL4m : yn4 ≤ 1048576 := by rw [← yL4l.out]; exact yL4n
  have yL5i : Ints w yA5 yn5 yL5 := Rd.toInts (yH ((.slice yA5 yn5 yc5), .ints yL5) (by simp))
  have yL5l := Lib.hid yL5i.len
  have yL5m : yn5 ≤ 1048576 := by rw [← yL5l.out]; exact yL5n
  have HE : Hid (sacOk kI0 kL1 xL0 xL1 xL2 xL3 xL4 xL5 yL0 yL1 yL2 yL3 yL4 yL5 rI0 = (sOpOk kI0 kL1 xL0 xL1 xL2 xL3 yL0 yL1 yL2 yL3 rI0 && formOk kI0 kL1 xL4 xL5 && formOk kI0 kL1 yL4 yL5 && (sacN kI0 rI0 (fsum kI0 xL0) (fsum kI0 xL2) (fsum kI0 xL4) (fsum kI0 yL0) (fsum kI0 yL2) (fsum kI0 yL4) == 0))) := rfl
  have HN : sOpOk kI0 kL1 xL0 xL1 xL2 xL3 yL0 yL1 yL2 yL3 rI0 = true → sacN kI0 rI0 (fsum kI0 xL0) (fsum kI0 xL2) (fsum kI0 xL4) (fsum kI0 yL0) (fsum kI0 yL2) (fsum kI0 yL4) = fsub kI0 (fsub kI0 (fsub kI0 (fsub kI0 (fmul kI0 rI0 (fsum kI0 xL4)) (fsum kI0 yL4)) (fmul kI0 (soE kI0 kL1 xL0 xL1 xL2 xL3 yL0 yL1 yL2 yL3 rI0) (fsum kI0 yL0))) (fmul kI0 (soD kI0 kL1 xL0 xL1 xL2 xL3 yL0 yL1 yL2 yL3 rI0) (fsum kI0 yL2))) (fmul kI0 (soD kI0 kL1 xL0 xL1 xL2 xL3 yL0 yL1 yL2 yL3 rI0) (soE kI0 kL1 xL0 xL1 xL2 xL3 yL0 yL1 yL2 yL3 rI0)) := fun h => by rw [soD_yes h, soE_yes h]; rfl
  cases k1 : sOpOk kI0 kL1 xL0 xL1 xL2 xL3 yL0 yL1 yL2 yL3 rI0 with
  | false =>
    go_enter Try.func68, Try.ntmps68
    go_wp2_with fail
    refine (sSacrificeOpen_L kI0 (RdL.b kH) kL1n (RdL.b xH) xL0n xL1n xL2n xL3n xL4n xL5n (RdL.b yH) yL0n yL1n yL2n yL3n yL4n yL5n rI0).mono ?_
    rintro e w1 ⟨rfl, b1⟩
    have z1 := b1.size
    try simp only [World.size_alloc, World.size_setCell, size_drew] at z1
    have B1 : Below w.heap.size w w1 := Below.t b1
    have xk_ : Box w1 (w.heap.size) #[.int .i64 kI0, (.slice kA1 kn1 kc1)] 33 := (((Box.new (g := w.heap.size) _ #[.int .i64 kI0, (.slice kA1 kn1 kc1)] 33 (by simp)).alloc _).alloc _).below b1 (by first | omega | (simp [size_drew]; done) | (simp [size_drew]; omega))
    have xk := xk_; clear xk_
    have xx_ : Box w1 (w.heap.size + 1) #[(.slice xA0 xn0 xc0), (.slice xA1 xn1 xc1), (.slice xA2 xn2 xc2), (.slice xA3 xn3 xc3), (.slice xA4 xn4 xc4), (.slice xA5 xn5 xc5)] 68 := ((Box.new (g := w.heap.size + 1) _ #[(.slice xA0 xn0 xc0), (.slice xA1 xn1 xc1), (.slice xA2 xn2 xc2), (.slice xA3 xn3 xc3), (.slice xA4 xn4 xc4), (.slice xA5 xn5 xc5)] 68 (by simp)).alloc _).below b1 (by first | omega | (simp [size_drew]; done) | (simp [size_drew]; omega))
    have xx := xx_; clear xx_
    have xy_ : Box w1 (w.heap.size + 1 + 1) #[(.slice yA0 yn0 yc0), (.slice yA1 yn1 yc1), (.slice yA2 yn2 yc2), (.slice yA3 yn3 yc3), (.slice yA4 yn4 yc4), (.slice yA5 yn5 yc5)] 68 := (Box.new (g := w.heap.size + 1 + 1) _ #[(.slice yA0 yn0 yc0), (.slice yA1 yn1 yc1), (.slice yA2 yn2 yc2), (.slice yA3 yn3 yc3), (.slice yA4 yn4 yc4), (.slice yA5 yn5 yc5)] 68 (by simp)).below b1 (by first | omega | (simp [size_drew]; done) | (simp [size_drew]; omega))
    have xy := xy_; clear xy_
    go_wp2
    go_ret
    exact ⟨ret_bool (by rw [HE.out, k1]; simp), by repeat (with_reducible (first | assumption | exact Below.refl _ _ | refine Below.alloc ?_ (by first | omega | (simp; done) | (simp; omega)) _ | refine Below.setCell ?_ (by first | omega | (simp; done) | (simp; omega)) _ | refine Below.drew ?_ | refine below_drewN ?_ _))⟩
  | true =>
    cases k2 : formOk kI0 kL1 xL4 xL5 with
    | false =>
      go_enter Try.func68, Try.ntmps68
      go_wp2_with fail
      refine (sSacrificeOpen_L kI0 (RdL.b kH) kL1n (RdL.b xH) xL0n xL1n xL2n xL3n xL4n xL5n (RdL.b yH) yL0n yL1n yL2n yL3n yL4n yL5n rI0).mono ?_
      rintro e w1 ⟨rfl, b1⟩
      have z1 := b1.size
      try simp only [World.size_alloc, World.size_setCell, size_drew] at z1
      have B1 : Below w.heap.size w w1 := Below.t b1
      have xk_ : Box w1 (w.heap.size) #[.int .i64 kI0, (.slice kA1 kn1 kc1)] 33 := (((Box.new (g := w.heap.size) _ #[.int .i64 kI0, (.slice kA1 kn1 kc1)] 33 (by simp)).alloc _).alloc _).below b1 (by first | omega | (simp [size_drew]; done) | (simp [size_drew]; omega))
      have xk := xk_; clear xk_
      have xx_ : Box w1 (w.heap.size + 1) #[(.slice xA0 xn0 xc0), (.slice xA1 xn1 xc1), (.slice xA2 xn2 xc2), (.slice xA3 xn3 xc3), (.slice xA4 xn4 xc4), (.slice xA5 xn5 xc5)] 68 := ((Box.new (g := w.heap.size + 1) _ #[(.slice xA0 xn0 xc0), (.slice xA1 xn1 xc1), (.slice xA2 xn2 xc2), (.slice xA3 xn3 xc3), (.slice xA4 xn4 xc4), (.slice xA5 xn5 xc5)] 68 (by simp)).alloc _).below b1 (by first | omega | (simp [size_drew]; done) | (simp [size_drew]; omega))
      have xx := xx_; clear xx_
      have xy_ : Box w1 (w.heap.size + 1 + 1) #[(.slice yA0 yn0 yc0), (.slice yA1 yn1 yc1), (.slice yA2 yn2 yc2), (.slice yA3 yn3 yc3), (.slice yA4 yn4 yc4), (.slice yA5 yn5 yc5)] 68 := (Box.new (g := w.heap.size + 1 + 1) _ #[(.slice yA0 yn0 yc0), (.slice yA1 yn1 yc1), (.slice yA2 yn2 yc2), (.slice yA3 yn3 yc3), (.slice yA4 yn4 yc4), (.slice yA5 yn5 yc5)] 68 (by simp)).below b1 (by first | omega | (simp [size_drew]; done) | (simp [size_drew]; omega))
      have xy := xy_; clear xy_
      obtain ⟨cxk_0, cxk_1, fxk_0, fxk_1⟩ := xk.two
      have l_xk_0 : w.heap.size < w1.heap.size := by omega
      have l_xk_1 : w.heap.size < w1.heap.size + 1 := by omega
      obtain ⟨cxx_0, cxx_1, cxx_2, cxx_3, cxx_4, cxx_5, fxx_0, fxx_1, fxx_2, fxx_3, fxx_4, fxx_5⟩ := xx.six
      have l_xx_0 : w.heap.size + 1 < w1.heap.size := by omega
      have l_xx_1 : w.heap.size + 1 < w1.heap.size + 1 := by omega
      obtain ⟨cxy_0, cxy_1, cxy_2, cxy_3, cxy_4, cxy_5, fxy_0, fxy_1, fxy_2, fxy_3, fxy_4, fxy_5⟩ := xy.six
      have l_xy_0 : w.heap.size + 1 + 1 < w1.heap.size := by omega
      have l_xy_1 : w.heap.size + 1 + 1 < w1.heap.size + 1 := by omega
      go_wp2_with fail
      refine (sl23Form_L kI0 (RdL.b kH) kL1n (RdL.b (ls := [((.slice xA4 xn4 xc4), .ints xL4), ((.slice xA5 xn5 xc5), .ints xL5)]) (RdL.sub xH (by simp))) xL4n xL5n).mono ?_
      rintro e w2 ⟨rfl, b2⟩
      clear cxk_0 cxk_1 fxk_0 fxk_1 l_xk_0 l_xk_1 cxx_0 cxx_1 cxx_2 cxx_3 cxx_4 cxx_5 fxx_0 fxx_1 fxx_2 fxx_3 fxx_4 fxx_5 l_xx_0 l_xx_1 cxy_0 cxy_1 cxy_2 cxy_3 cxy_4 cxy_5 fxy_0 fxy_1 fxy_2 fxy_3 fxy_4 fxy_5 l_xy_0 l_xy_1
      have z2 := b2.size
      try simp only [World.size_alloc, World.size_setCell, size_drew] at z2
      have B2 : Below w.heap.size w w2 := Below.t b2
      have xk_ : Box w2 (w.heap.size) #[.int .i64 kI0, (.slice kA1 kn1 kc1)] 33 := (xk.alloc _).below b2 (by first | omega | (simp [size_drew]; done) | (simp [size_drew]; omega))
      clear xk; have xk := xk_; clear xk_
      have xx_ : Box w2 (w.heap.size + 1) #[(.slice xA0 xn0 xc0), (.slice xA1 xn1 xc1), (.slice xA2 xn2 xc2), (.slice xA3 xn3 xc3), (.slice xA4 xn4 xc4), (.slice xA5 xn5 xc5)] 68 := (xx.alloc _).below b2 (by first | omega | (simp [size_drew]; done) | (simp [size_drew]; omega))
      clear xx; have xx := xx_; clear xx_
      have xy_ : Box w2 (w.heap.size + 1 + 1) #[(.slice yA0 yn0 yc0), (.slice yA1 yn1 yc1), (.slice yA2 yn2 yc2), (.slice yA3 yn3 yc3), (.slice yA4 yn4 yc4), (.slice yA5 yn5 yc5)] 68 := (xy.alloc _).below b2 (by first | omega | (simp [size_drew]; done) | (simp [size_drew]; omega))
      clear xy; have xy := xy_; clear xy_
      have xo_ : Box w2 (w1.heap.size) #[.int .i64 (soD kI0 kL1 xL0 xL1 xL2 xL3 yL0 yL1 yL2 yL3 rI0), .int .i64 (soE kI0 kL1 xL0 xL1 xL2 xL3 yL0 yL1 yL2 yL3 rI0)] 73 := (Box.new (g := w1.heap.size) _ #[.int .i64 (soD kI0 kL1 xL0 xL1 xL2 xL3 yL0 yL1 yL2 yL3 rI0), .int .i64 (soE kI0 kL1 xL0 xL1 xL2 xL3 yL0 yL1 yL2 yL3 rI0)] 73 (by simp)).below b2 (by first | omega | (simp [size_drew]; done) | (simp [size_drew]; omega))
      have xo := xo_; clear xo_
      go_wp2
      go_ret
      exact ⟨ret_bool (by rw [HE.out, k1, k2]; simp), by repeat (with_reducible (first | assumption | exact Below.refl _ _ | refine Below.alloc ?_ (by first | omega | (simp; done) | (simp; omega)) _ | refine Below.setCell ?_ (by first | omega | (simp; done) | (simp; omega)) _ | refine Below.drew ?_ | refine below_drewN ?_ _))⟩
    | true =>
      cases k3 : formOk kI0 kL1 yL4 yL5 with
      | false =>
        go_enter Try.func68, Try.ntmps68
        go_wp2_with fail
        refine (sSacrificeOpen_L kI0 (RdL.b kH) kL1n (RdL.b xH) xL0n xL1n xL2n xL3n xL4n xL5n (RdL.b yH) yL0n yL1n yL2n yL3n yL4n yL5n rI0).mono ?_
        rintro e w1 ⟨rfl, b1⟩
        have z1 := b1.size
        try simp only [World.size_alloc, World.size_setCell, size_drew] at z1
        have B1 : Below w.heap.size w w1 := Below.t b1
        have xk_ : Box w1 (w.heap.size) #[.int .i64 kI0, (.slice kA1 kn1 kc1)] 33 := (((Box.new (g := w.heap.size) _ #[.int .i64 kI0, (.slice kA1 kn1 kc1)] 33 (by simp)).alloc _).alloc _).below b1 (by first | omega | (simp [size_drew]; done) | (simp [size_drew]; omega))
        have xk := xk_; clear xk_
        have xx_ : Box w1 (w.heap.size + 1) #[(.slice xA0 xn0 xc0), (.slice xA1 xn1 xc1), (.slice xA2 xn2 xc2), (.slice xA3 xn3 xc3), (.slice xA4 xn4 xc4), (.slice xA5 xn5 xc5)] 68 := ((Box.new (g := w.heap.size + 1) _ #[(.slice xA0 xn0 xc0), (.slice xA1 xn1 xc1), (.slice xA2 xn2 xc2), (.slice xA3 xn3 xc3), (.slice xA4 xn4 xc4), (.slice xA5 xn5 xc5)] 68 (by simp)).alloc _).below b1 (by first | omega | (simp [size_drew]; done) | (simp [size_drew]; omega))
        have xx := xx_; clear xx_
        have xy_ : Box w1 (w.heap.size + 1 + 1) #[(.slice yA0 yn0 yc0), (.slice yA1 yn1 yc1), (.slice yA2 yn2 yc2), (.slice yA3 yn3 yc3), (.slice yA4 yn4 yc4), (.slice yA5 yn5 yc5)] 68 := (Box.new (g := w.heap.size + 1 + 1) _ #[(.slice yA0 yn0 yc0), (.slice yA1 yn1 yc1), (.slice yA2 yn2 yc2), (.slice yA3 yn3 yc3), (.slice yA4 yn4 yc4), (.slice yA5 yn5 yc5)] 68 (by simp)).below b1 (by first | omega | (simp [size_drew]; done) | (simp [size_drew]; omega))
        have xy := xy_; clear xy_
        obtain ⟨cxk_0, cxk_1, fxk_0, fxk_1⟩ := xk.two
        have l_xk_0 : w.heap.size < w1.heap.size := by omega
        have l_xk_1 : w.heap.size < w1.heap.size + 1 := by omega
        obtain ⟨cxx_0, cxx_1, cxx_2, cxx_3, cxx_4, cxx_5, fxx_0, fxx_1, fxx_2, fxx_3, fxx_4, fxx_5⟩ := xx.six
        have l_xx_0 : w.heap.size + 1 < w1.heap.size := by omega
        have l_xx_1 : w.heap.size + 1 < w1.heap.size + 1 := by omega
        obtain ⟨cxy_0, cxy_1, cxy_2, cxy_3, cxy_4, cxy_5, fxy_0, fxy_1, fxy_2, fxy_3, fxy_4, fxy_5⟩ := xy.six
        have l_xy_0 : w.heap.size + 1 + 1 < w1.heap.size := by omega
        have l_xy_1 : w.heap.size + 1 + 1 < w1.heap.size + 1 := by omega
        go_wp2_with fail
        refine (sl23Form_L kI0 (RdL.b kH) kL1n (RdL.b (ls := [((.slice xA4 xn4 xc4), .ints xL4), ((.slice xA5 xn5 xc5), .ints xL5)]) (RdL.sub xH (by simp))) xL4n xL5n).mono ?_
        rintro e w2 ⟨rfl, b2⟩
        clear cxk_0 cxk_1 fxk_0 fxk_1 l_xk_0 l_xk_1 cxx_0 cxx_1 cxx_2 cxx_3 cxx_4 cxx_5 fxx_0 fxx_1 fxx_2 fxx_3 fxx_4 fxx_5 l_xx_0 l_xx_1 cxy_0 cxy_1 cxy_2 cxy_3 cxy_4 cxy_5 fxy_0 fxy_1 fxy_2 fxy_3 fxy_4 fxy_5 l_xy_0 l_xy_1
        have z2 := b2.size
        try simp only [World.size_alloc, World.size_setCell, size_drew] at z2
        have B2 : Below w.heap.size w w2 := Below.t b2
        have xk_ : Box w2 (w.heap.size) #[.int .i64 kI0, (.slice kA1 kn1 kc1)] 33 := (xk.alloc _).below b2 (by first | omega | (simp [size_drew]; done) | (simp [size_drew]; omega))
        clear xk; have xk := xk_; clear xk_
        have xx_ : Box w2 (w.heap.size + 1) #[(.slice xA0 xn0 xc0), (.slice xA1 xn1 xc1), (.slice xA2 xn2 xc2), (.slice xA3 xn3 xc3), (.slice xA4 xn4 xc4), (.slice xA5 xn5 xc5)] 68 := (xx.alloc _).below b2 (by first | omega | (simp [size_drew]; done) | (simp [size_drew]; omega))
        clear xx; have xx := xx_; clear xx_
        have xy_ : Box w2 (w.heap.size + 1 + 1) #[(.slice yA0 yn0 yc0), (.slice yA1 yn1 yc1), (.slice yA2 yn2 yc2), (.slice yA3 yn3 yc3), (.slice yA4 yn4 yc4), (.slice yA5 yn5 yc5)] 68 := (xy.alloc _).below b2 (by first | omega | (simp [size_drew]; done) | (simp [size_drew]; omega))
        clear xy; have xy := xy_; clear xy_
        have xo_ : Box w2 (w1.heap.size) #[.int .i64 (soD kI0 kL1 xL0 xL1 xL2 xL3 yL0 yL1 yL2 yL3 rI0), .int .i64 (soE kI0 kL1 xL0 xL1 xL2 xL3 yL0 yL1 yL2 yL3 rI0)] 73 := (Box.new (g := w1.heap.size) _ #[.int .i64 (soD kI0 kL1 xL0 xL1 xL2 xL3 yL0 yL1 yL2 yL3 rI0), .int .i64 (soE kI0 kL1 xL0 xL1 xL2 xL3 yL0 yL1 yL2 yL3 rI0)] 73 (by simp)).below b2 (by first | omega | (simp [size_drew]; done) | (simp [size_drew]; omega))
        have xo := xo_; clear xo_
        obtain ⟨cxk_0, cxk_1, fxk_0, fxk_1⟩ := xk.two
        have l_xk_0 : w.heap.size < w2.heap.size := by omega
        obtain ⟨cxy_0, cxy_1, cxy_2, cxy_3, cxy_4, cxy_5, fxy_0, fxy_1, fxy_2, fxy_3, fxy_4, fxy_5⟩ := xy.six
        have l_xy_0 : w.heap.size + 1 + 1 < w2.heap.size := by omega
        go_wp2_with fail
        refine (sl23Form_L kI0 (RdL.b kH) kL1n (RdL.b (ls := [((.slice yA4 yn4 yc4), .ints yL4), ((.slice yA5 yn5 yc5), .ints yL5)]) (RdL.sub yH (by simp))) yL4n yL5n).mono ?_
        rintro e w3 ⟨rfl, b3⟩
        clear cxk_0 cxk_1 fxk_0 fxk_1 l_xk_0 cxy_0 cxy_1 cxy_2 cxy_3 cxy_4 cxy_5 fxy_0 fxy_1 fxy_2 fxy_3 fxy_4 fxy_5 l_xy_0
        have z3 := b3.size
        try simp only [World.size_alloc, World.size_setCell, size_drew] at z3
        have B3 : Below w.heap.size w w3 := Below.t b3
        have xk_ : Box w3 (w.heap.size) #[.int .i64 kI0, (.slice kA1 kn1 kc1)] 33 := xk.below b3 (by first | omega | (simp [size_drew]; done) | (simp [size_drew]; omega))
        clear xk; have xk := xk_; clear xk_
        have xx_ : Box w3 (w.heap.size + 1) #[(.slice xA0 xn0 xc0), (.slice xA1 xn1 xc1), (.slice xA2 xn2 xc2), (.slice xA3 xn3 xc3), (.slice xA4 xn4 xc4), (.slice xA5 xn5 xc5)] 68 := xx.below b3 (by first | omega | (simp [size_drew]; done) | (simp [size_drew]; omega))
        clear xx; have xx := xx_; clear xx_
        have xy_ : Box w3 (w.heap.size + 1 + 1) #[(.slice yA0 yn0 yc0), (.slice yA1 yn1 yc1), (.slice yA2 yn2 yc2), (.slice yA3 yn3 yc3), (.slice yA4 yn4 yc4), (.slice yA5 yn5 yc5)] 68 := xy.below b3 (by first | omega | (simp [size_drew]; done) | (simp [size_drew]; omega))
        clear xy; have xy := xy_; clear xy_
        have xo_ : Box w3 (w1.heap.size) #[.int .i64 (soD kI0 kL1 xL0 xL1 xL2 xL3 yL0 yL1 yL2 yL3 rI0), .int .i64 (soE kI0 kL1 xL0 xL1 xL2 xL3 yL0 yL1 yL2 yL3 rI0)] 73 := xo.below b3 (by first | omega | (simp [size_drew]; done) | (simp [size_drew]; omega))
        clear xo; have xo := xo_; clear xo_
        go_wp2
        go_ret
        exact ⟨ret_bool (by rw [HE.out, k1, k2, k3]; simp), by repeat (with_reducible (first | assumption | exact Below.refl _ _ | refine Below.alloc ?_ (by first | omega | (simp; done) | (simp; omega)) _ | refine Below.setCell ?_ (by first | omega | (simp; done) | (simp; omega)) _ | refine Below.drew ?_ | refine below_drewN ?_ _))⟩
      | true =>
        go_enter Try.func68, Try.ntmps68
        go_wp2_with fail
        refine (sSacrificeOpen_L kI0 (RdL.b kH) kL1n (RdL.b xH) xL0n xL1n xL2n xL3n xL4n xL5n (RdL.b yH) yL0n yL1n yL2n yL3n yL4n yL5n rI0).mono ?_
        rintro e w1 ⟨rfl, b1⟩
        have z1 := b1.size
        try simp only [World.size_alloc, World.size_setCell, size_drew] at z1
        have B1 : Below w.heap.size w w1 := Below.t b1
        have xk_ : Box w1 (w.heap.size) #[.int .i64 kI0, (.slice kA1 kn1 kc1)] 33 := (((Box.new (g := w.heap.size) _ #[.int .i64 kI0, (.slice kA1 kn1 kc1)] 33 (by simp)).alloc _).alloc _).below b1 (by first | omega | (simp [size_drew]; done) | (simp [size_drew]; omega))
        have xk := xk_; clear xk_
        have xx_ : Box w1 (w.heap.size + 1) #[(.slice xA0 xn0 xc0), (.slice xA1 xn1 xc1), (.slice xA2 xn2 xc2), (.slice xA3 xn3 xc3), (.slice xA4 xn4 xc4), (.slice xA5 xn5 xc5)] 68 := ((Box.new (g := w.heap.size + 1) _ #[(.slice xA0 xn0 xc0), (.slice xA1 xn1 xc1), (.slice xA2 xn2 xc2), (.slice xA3 xn3 xc3), (.slice xA4 xn4 xc4), (.slice xA5 xn5 xc5)] 68 (by simp)).alloc _).below b1 (by first | omega | (simp [size_drew]; done) | (simp [size_drew]; omega))
        have xx := xx_; clear xx_
        have xy_ : Box w1 (w.heap.size + 1 + 1) #[(.slice yA0 yn0 yc0), (.slice yA1 yn1 yc1), (.slice yA2 yn2 yc2), (.slice yA3 yn3 yc3), (.slice yA4 yn4 yc4), (.slice yA5 yn5 yc5)] 68 := (Box.new (g := w.heap.size + 1 + 1) _ #[(.slice yA0 yn0 yc0), (.slice yA1 yn1 yc1), (.slice yA2 yn2 yc2), (.slice yA3 yn3 yc3), (.slice yA4 yn4 yc4), (.slice yA5 yn5 yc5)] 68 (by simp)).below b1 (by first | omega | (simp [size_drew]; done) | (simp [size_drew]; omega))
        have xy := xy_; clear xy_
        obtain ⟨cxk_0, cxk_1, fxk_0, fxk_1⟩ := xk.two
        have l_xk_0 : w.heap.size < w1.heap.size := by omega
        have l_xk_1 : w.heap.size < w1.heap.size + 1 := by omega
        obtain ⟨cxx_0, cxx_1, cxx_2, cxx_3, cxx_4, cxx_5, fxx_0, fxx_1, fxx_2, fxx_3, fxx_4, fxx_5⟩ := xx.six
        have l_xx_0 : w.heap.size + 1 < w1.heap.size := by omega
        have l_xx_1 : w.heap.size + 1 < w1.heap.size + 1 := by omega
        obtain ⟨cxy_0, cxy_1, cxy_2, cxy_3, cxy_4, cxy_5, fxy_0, fxy_1, fxy_2, fxy_3, fxy_4, fxy_5⟩ := xy.six
        have l_xy_0 : w.heap.size + 1 + 1 < w1.heap.size := by omega
        have l_xy_1 : w.heap.size + 1 + 1 < w1.heap.size + 1 := by omega
        go_wp2_with fail
        refine (sl23Form_L kI0 (RdL.b kH) kL1n (RdL.b (ls := [((.slice xA4 xn4 xc4), .ints xL4), ((.slice xA5 xn5 xc5), .ints xL5)]) (RdL.sub xH (by simp))) xL4n xL5n).mono ?_
        rintro e w2 ⟨rfl, b2⟩
        clear cxk_0 cxk_1 fxk_0 fxk_1 l_xk_0 l_xk_1 cxx_0 cxx_1 cxx_2 cxx_3 cxx_4 cxx_5 fxx_0 fxx_1 fxx_2 fxx_3 fxx_4 fxx_5 l_xx_0 l_xx_1 cxy_0 cxy_1 cxy_2 cxy_3 cxy_4 cxy_5 fxy_0 fxy_1 fxy_2 fxy_3 fxy_4 fxy_5 l_xy_0 l_xy_1
        have z2 := b2.size
        try simp only [World.size_alloc, World.size_setCell, size_drew] at z2
        have B2 : Below w.heap.size w w2 := Below.t b2
        have xk_ : Box w2 (w.heap.size) #[.int .i64 kI0, (.slice kA1 kn1 kc1)] 33 := (xk.alloc _).below b2 (by first | omega | (simp [size_drew]; done) | (simp [size_drew]; omega))
        clear xk; have xk := xk_; clear xk_
        have xx_ : Box w2 (w.heap.size + 1) #[(.slice xA0 xn0 xc0), (.slice xA1 xn1 xc1), (.slice xA2 xn2 xc2), (.slice xA3 xn3 xc3), (.slice xA4 xn4 xc4), (.slice xA5 xn5 xc5)] 68 := (xx.alloc _).below b2 (by first | omega | (simp [size_drew]; done) | (simp [size_drew]; omega))
        clear xx; have xx := xx_; clear xx_
        have xy_ : Box w2 (w.heap.size + 1 + 1) #[(.slice yA0 yn0 yc0), (.slice yA1 yn1 yc1), (.slice yA2 yn2 yc2), (.slice yA3 yn3 yc3), (.slice yA4 yn4 yc4), (.slice yA5 yn5 yc5)] 68 := (xy.alloc _).below b2 (by first | omega | (simp [size_drew]; done) | (simp [size_drew]; omega))
        clear xy; have xy := xy_; clear xy_
        have xo_ : Box w2 (w1.heap.size) #[.int .i64 (soD kI0 kL1 xL0 xL1 xL2 xL3 yL0 yL1 yL2 yL3 rI0), .int .i64 (soE kI0 kL1 xL0 xL1 xL2 xL3 yL0 yL1 yL2 yL3 rI0)] 73 := (Box.new (g := w1.heap.size) _ #[.int .i64 (soD kI0 kL1 xL0 xL1 xL2 xL3 yL0 yL1 yL2 yL3 rI0), .int .i64 (soE kI0 kL1 xL0 xL1 xL2 xL3 yL0 yL1 yL2 yL3 rI0)] 73 (by simp)).below b2 (by first | omega | (simp [size_drew]; done) | (simp [size_drew]; omega))
        have xo := xo_; clear xo_
        obtain ⟨cxk_0, cxk_1, fxk_0, fxk_1⟩ := xk.two
        have l_xk_0 : w.heap.size < w2.heap.size := by omega
        obtain ⟨cxy_0, cxy_1, cxy_2, cxy_3, cxy_4, cxy_5, fxy_0, fxy_1, fxy_2, fxy_3, fxy_4, fxy_5⟩ := xy.six
        have l_xy_0 : w.heap.size + 1 + 1 < w2.heap.size := by omega
        go_wp2_with fail
        refine (sl23Form_L kI0 (RdL.b kH) kL1n (RdL.b (ls := [((.slice yA4 yn4 yc4), .ints yL4), ((.slice yA5 yn5 yc5), .ints yL5)]) (RdL.sub yH (by simp))) yL4n yL5n).mono ?_
        rintro e w3 ⟨rfl, b3⟩
        clear cxk_0 cxk_1 fxk_0 fxk_1 l_xk_0 cxy_0 cxy_1 cxy_2 cxy_3 cxy_4 cxy_5 fxy_0 fxy_1 fxy_2 fxy_3 fxy_4 fxy_5 l_xy_0
        have z3 := b3.size
        try simp only [World.size_alloc, World.size_setCell, size_drew] at z3
        have B3 : Below w.heap.size w w3 := Below.t b3
        have xk_ : Box w3 (w.heap.size) #[.int .i64 kI0, (.slice kA1 kn1 kc1)] 33 := xk.below b3 (by first | omega | (simp [size_drew]; done) | (simp [size_drew]; omega))
        clear xk; have xk := xk_; clear xk_
        have xx_ : Box w3 (w.heap.size + 1) #[(.slice xA0 xn0 xc0), (.slice xA1 xn1 xc1), (.slice xA2 xn2 xc2), (.slice xA3 xn3 xc3), (.slice xA4 xn4 xc4), (.slice xA5 xn5 xc5)] 68 := xx.below b3 (by first | omega | (simp [size_drew]; done) | (simp [size_drew]; omega))
        clear xx; have xx := xx_; clear xx_
        have xy_ : Box w3 (w.heap.size + 1 + 1) #[(.slice yA0 yn0 yc0), (.slice yA1 yn1 yc1), (.slice yA2 yn2 yc2), (.slice yA3 yn3 yc3), (.slice yA4 yn4 yc4), (.slice yA5 yn5 yc5)] 68 := xy.below b3 (by first | omega | (simp [size_drew]; done) | (simp [size_drew]; omega))
        clear xy; have xy := xy_; clear xy_
        have xo_ : Box w3 (w1.heap.size) #[.int .i64 (soD kI0 kL1 xL0 xL1 xL2 xL3 yL0 yL1 yL2 yL3 rI0), .int .i64 (soE kI0 kL1 xL0 xL1 xL2 xL3 yL0 yL1 yL2 yL3 rI0)] 73 := xo.below b3 (by first | omega | (simp [size_drew]; done) | (simp [size_drew]; omega))
        clear xo; have xo := xo_; clear xo_
        obtain ⟨cxk_0, cxk_1, fxk_0, fxk_1⟩ := xk.two
        have l_xk_0 : w.heap.size < w3.heap.size := by omega
        obtain ⟨cxx_0, cxx_1, cxx_2, cxx_3, cxx_4, cxx_5, fxx_0, fxx_1, fxx_2, fxx_3, fxx_4, fxx_5⟩ := xx.six
        have l_xx_0 : w.heap.size + 1 < w3.heap.size := by omega
        obtain ⟨cxy_0, cxy_1, cxy_2, cxy_3, cxy_4, cxy_5, fxy_0, fxy_1, fxy_2, fxy_3, fxy_4, fxy_5⟩ := xy.six
        have l_xy_0 : w.heap.size + 1 + 1 < w3.heap.size := by omega
        go_wp2_with fail
        clear cxk_0 cxk_1 fxk_0 fxk_1 l_xk_0 cxx_0 cxx_1 cxx_2 cxx_3 cxx_4 cxx_5 fxx_0 fxx_1 fxx_2 fxx_3 fxx_4 fxx_5 l_xx_0 cxy_0 cxy_1 cxy_2 cxy_3 cxy_4 cxy_5 fxy_0 fxy_1 fxy_2 fxy_3 fxy_4 fxy_5 l_xy_0
        refine wp_region_held_drew (S := fun W => W.cell? ⟨w.heap.size, 0, none⟩ = some (.int .i64 kI0) ∧ W.cell? ⟨w.heap.size, 1, none⟩ = some ((.slice kA1 kn1 kc1)) ∧ W.cell? ⟨w.heap.size + 1, 0, none⟩ = some ((.slice xA0 xn0 xc0)) ∧ W.cell? ⟨w.heap.size + 1, 1, none⟩ = some ((.slice xA1 xn1 xc1)) ∧ W.cell? ⟨w.heap.size + 1, 2, none⟩ = some ((.slice xA2 xn2 xc2)) ∧ W.cell? ⟨w.heap.size + 1, 3, none⟩ = some ((.slice xA3 xn3 xc3)) ∧ W.cell? ⟨w.heap.size + 1, 4, none⟩ = some ((.slice xA4 xn4 xc4)) ∧ W.cell? ⟨w.heap.size + 1, 5, none⟩ = some ((.slice xA5 xn5 xc5)) ∧ W.cell? ⟨w.heap.size + 1 + 1, 0, none⟩ = some ((.slice yA0 yn0 yc0)) ∧ W.cell? ⟨w.heap.size + 1 + 1, 1, none⟩ = some ((.slice yA1 yn1 yc1)) ∧ W.cell? ⟨w.heap.size + 1 + 1, 2, none⟩ = some ((.slice yA2 yn2 yc2)) ∧ W.cell? ⟨w.heap.size + 1 + 1, 3, none⟩ = some ((.slice yA3 yn3 yc3)) ∧ W.cell? ⟨w.heap.size + 1 + 1, 4, none⟩ = some ((.slice yA4 yn4 yc4)) ∧ W.cell? ⟨w.heap.size + 1 + 1, 5, none⟩ = some ((.slice yA5 yn5 yc5))) (by kernel_rfl) ⟨xk.drew.two.1, xk.drew.two.2.1, xx.drew.six.1, xx.drew.six.2.1, xx.drew.six.2.2.1, xx.drew.six.2.2.2.1, xx.drew.six.2.2.2.2.1, xx.drew.six.2.2.2.2.2.1, xy.drew.six.1, xy.drew.six.2.1, xy.drew.six.2.2.1, xy.drew.six.2.2.2.1, xy.drew.six.2.2.2.2.1, xy.drew.six.2.2.2.2.2.1⟩ (fun hS => ?_)
        (refine tk 0 hS ?_; (try simp only [Act.put, layA, layB, layC]))
        (refine tk 1 hS ?_; (try simp only [Act.put, layA, layB, layC]))
        (refine tk 2 hS ?_; (try simp only [Act.put, layA, layB, layC]))
        (refine tk 3 hS ?_; (try simp only [Act.put, layA, layB, layC]))
        (refine tk 4 hS ?_; (try simp only [Act.put, layA, layB, layC]))
        (refine tk 5 hS ?_; (try simp only [Act.put, layA, layB, layC]))
        (refine tk 8 hS ?_; (try simp only [Act.put, layA, layB, layC]))
        (refine tk 9 hS ?_; (try simp only [Act.put, layA, layB, layC]))
        (refine tk 10 hS ?_; (try simp only [Act.put, layA, layB, layC]))
        refine on 6 ?_
        refine callH (by go_simp; (first | done | with_reducible rfl | exact ⟨rfl, rfl⟩)) ?_
        go_at_call 121
        refine (sl24Value_L kI0 (RdL.b kH) kL1n (RdL.b (ls := [((.slice xA4 xn4 xc4), .ints xL4), ((.slice xA5 xn5 xc5), .ints xL5)]) (RdL.sub xH (by simp))) xL4n xL5n).mono ?_
        rintro e w4 ⟨rfl, b4⟩
        clear hS
        have z4 := Below.size b4
        (try simp only [World.size_alloc, World.size_setCell, size_drew] at z4)
        have B4 : Below w.heap.size w w4 := Below.t b4
        have xk_ : Box w4 (w.heap.size) #[.int .i64 kI0, (.slice kA1 kn1 kc1)] 33 := (Box.b xk.drew b4)
        clear xk; have xk := xk_; clear xk_
        have xx_ : Box w4 (w.heap.size + 1) #[(.slice xA0 xn0 xc0), (.slice xA1 xn1 xc1), (.slice xA2 xn2 xc2), (.slice xA3 xn3 xc3), (.slice xA4 xn4 xc4), (.slice xA5 xn5 xc5)] 68 := (Box.b xx.drew b4)
        clear xx; have xx := xx_; clear xx_
        have xy_ : Box w4 (w.heap.size + 1 + 1) #[(.slice yA0 yn0 yc0), (.slice yA1 yn1 yc1), (.slice yA2 yn2 yc2), (.slice yA3 yn3 yc3), (.slice yA4 yn4 yc4), (.slice yA5 yn5 yc5)] 68 := (Box.b xy.drew b4)
        clear xy; have xy := xy_; clear xy_
        have xo_ : Box w4 (w1.heap.size) #[.int .i64 (soD kI0 kL1 xL0 xL1 xL2 xL3 yL0 yL1 yL2 yL3 rI0), .int .i64 (soE kI0 kL1 xL0 xL1 xL2 xL3 yL0 yL1 yL2 yL3 rI0)] 73 := (Box.b xo.drew b4)
        clear xo; have xo := xo_; clear xo_
        refine ⟨_, rfl, ⟨xk.two.1, xk.two.2.1, xx.six.1, xx.six.2.1, xx.six.2.2.1, xx.six.2.2.2.1, xx.six.2.2.2.2.1, xx.six.2.2.2.2.2.1, xy.six.1, xy.six.2.1, xy.six.2.2.1, xy.six.2.2.2.1, xy.six.2.2.2.2.1, xy.six.2.2.2.2.2.1⟩, fun hS => ?_⟩
        (try simp only [Act.put, layA, layB, layC])
        refine on 7 ?_
        refine callH (by go_simp; (first | done | with_reducible rfl | exact ⟨rfl, rfl⟩)) ?_
        go_at_call 105
        refine (sFMul_any _ _ _ _).mono ?_
        rintro e w_ ⟨rfl, rfl⟩
        refine ⟨_, rfl, hS, fun hS => ?_⟩
        (try simp only [Act.put, layA, layB, layC])
        refine on 11 ?_
        refine callH (by go_simp; (first | done | with_reducible rfl | exact ⟨rfl, rfl⟩)) ?_
        go_at_call 121
        refine (sl24Value_L kI0 (RdL.b kH) kL1n (RdL.b (ls := [((.slice yA4 yn4 yc4), .ints yL4), ((.slice yA5 yn5 yc5), .ints yL5)]) (RdL.sub yH (by simp))) yL4n yL5n).mono ?_
        rintro e w5 ⟨rfl, b5⟩
        clear hS
        have z5 := Below.size b5
        (try simp only [World.size_alloc, World.size_setCell, size_drew] at z5)
        have B5 : Below w.heap.size w w5 := Below.t b5
        have xk_ : Box w5 (w.heap.size) #[.int .i64 kI0, (.slice kA1 kn1 kc1)] 33 := (Box.b xk b5)
        clear xk; have xk := xk_; clear xk_
        have xx_ : Box w5 (w.heap.size + 1) #[(.slice xA0 xn0 xc0), (.slice xA1 xn1 xc1), (.slice xA2 xn2 xc2), (.slice xA3 xn3 xc3), (.slice xA4 xn4 xc4), (.slice xA5 xn5 xc5)] 68 := (Box.b xx b5)
        clear xx; have xx := xx_; clear xx_
        have xy_ : Box w5 (w.heap.size + 1 + 1) #[(.slice yA0 yn0 yc0), (.slice yA1 yn1 yc1), (.slice yA2 yn2 yc2), (.slice yA3 yn3 yc3), (.slice yA4 yn4 yc4), (.slice yA5 yn5 yc5)] 68 := (Box.b xy b5)
        clear xy; have xy := xy_; clear xy_
        have xo_ : Box w5 (w1.heap.size) #[.int .i64 (soD kI0 kL1 xL0 xL1 xL2 xL3 yL0 yL1 yL2 yL3 rI0), .int .i64 (soE kI0 kL1 xL0 xL1 xL2 xL3 yL0 yL1 yL2 yL3 rI0)] 73 := (Box.b xo b5)
        clear xo; have xo := xo_; clear xo_
        refine ⟨_, rfl, ⟨xk.two.1, xk.two.2.1, xx.six.1, xx.six.2.1, xx.six.2.2.1, xx.six.2.2.2.1, xx.six.2.2.2.2.1, xx.six.2.2.2.2.2.1, xy.six.1, xy.six.2.1, xy.six.2.2.1, xy.six.2.2.2.1, xy.six.2.2.2.2.1, xy.six.2.2.2.2.2.1⟩, fun hS => ?_⟩
        (try simp only [Act.put, layA, layB, layC])
        refine on 12 ?_
        refine callH (by go_simp; (first | done | with_reducible rfl | exact ⟨rfl, rfl⟩)) ?_
        go_at_call 88
        refine (sFSub_any _ _ _ _).mono ?_
        rintro e w_ ⟨rfl, rfl⟩
        refine ⟨_, rfl, hS, fun hS => ?_⟩
        (try simp only [Act.put, layA, layB, layC])
        (refine tk 13 hS ?_; (try simp only [Act.put, layA, layB, layC]))
        clear hS
        refine wpAnyH_done (by kernel_rfl) ?_ _
        obtain ⟨cxk_0, cxk_1, fxk_0, fxk_1⟩ := xk.two
        have l_xk_0 : w.heap.size < w5.heap.size := by omega
        obtain ⟨cxx_0, cxx_1, cxx_2, cxx_3, cxx_4, cxx_5, fxx_0, fxx_1, fxx_2, fxx_3, fxx_4, fxx_5⟩ := xx.six
        have l_xx_0 : w.heap.size + 1 < w5.heap.size := by omega
        obtain ⟨cxy_0, cxy_1, cxy_2, cxy_3, cxy_4, cxy_5, fxy_0, fxy_1, fxy_2, fxy_3, fxy_4, fxy_5⟩ := xy.six
        have l_xy_0 : w.heap.size + 1 + 1 < w5.heap.size := by omega
        obtain ⟨cxo_0, cxo_1, fxo_0, fxo_1⟩ := xo.two
        have l_xo_0 : w1.heap.size < w5.heap.size := by omega
        go_wp2_with fail
        clear cxk_0 cxk_1 fxk_0 fxk_1 l_xk_0 cxx_0 cxx_1 cxx_2 cxx_3 cxx_4 cxx_5 fxx_0 fxx_1 fxx_2 fxx_3 fxx_4 fxx_5 l_xx_0 cxy_0 cxy_1 cxy_2 cxy_3 cxy_4 cxy_5 fxy_0 fxy_1 fxy_2 fxy_3 fxy_4 fxy_5 l_xy_0 cxo_0 cxo_1 fxo_0 fxo_1 l_xo_0
        refine wp_region_held_drew (S := fun W => W.cell? ⟨w.heap.size, 0, none⟩ = some (.int .i64 kI0) ∧ W.cell? ⟨w.heap.size, 1, none⟩ = some ((.slice kA1 kn1 kc1)) ∧ W.cell? ⟨w.heap.size + 1, 0, none⟩ = some ((.slice xA0 xn0 xc0)) ∧ W.cell? ⟨w.heap.size + 1, 1, none⟩ = some ((.slice xA1 xn1 xc1)) ∧ W.cell? ⟨w.heap.size + 1, 2, none⟩ = some ((.slice xA2 xn2 xc2)) ∧ W.cell? ⟨w.heap.size + 1, 3, none⟩ = some ((.slice xA3 xn3 xc3)) ∧ W.cell? ⟨w.heap.size + 1, 4, none⟩ = some ((.slice xA4 xn4 xc4)) ∧ W.cell? ⟨w.heap.size + 1, 5, none⟩ = some ((.slice xA5 xn5 xc5)) ∧ W.cell? ⟨w.heap.size + 1 + 1, 0, none⟩ = some ((.slice yA0 yn0 yc0)) ∧ W.cell? ⟨w.heap.size + 1 + 1, 1, none⟩ = some ((.slice yA1 yn1 yc1)) ∧ W.cell? ⟨w.heap.size + 1 + 1, 2, none⟩ = some ((.slice yA2 yn2 yc2)) ∧ W.cell? ⟨w.heap.size + 1 + 1, 3, none⟩ = some ((.slice yA3 yn3 yc3)) ∧ W.cell? ⟨w.heap.size + 1 + 1, 4, none⟩ = some ((.slice yA4 yn4 yc4)) ∧ W.cell? ⟨w.heap.size + 1 + 1, 5, none⟩ = some ((.slice yA5 yn5 yc5)) ∧ W.cell? ⟨w1.heap.size, 0, none⟩ = some (.int .i64 (soD kI0 kL1 xL0 xL1 xL2 xL3 yL0 yL1 yL2 yL3 rI0)) ∧ W.cell? ⟨w1.heap.size, 1, none⟩ = some (.int .i64 (soE kI0 kL1 xL0 xL1 xL2 xL3 yL0 yL1 yL2 yL3 rI0))) (by kernel_rfl) ⟨xk.drew.two.1, xk.drew.two.2.1, xx.drew.six.1, xx.drew.six.2.1, xx.drew.six.2.2.1, xx.drew.six.2.2.2.1, xx.drew.six.2.2.2.2.1, xx.drew.six.2.2.2.2.2.1, xy.drew.six.1, xy.drew.six.2.1, xy.drew.six.2.2.1, xy.drew.six.2.2.2.1, xy.drew.six.2.2.2.2.1, xy.drew.six.2.2.2.2.2.1, xo.drew.two.1, xo.drew.two.2.1⟩ (fun hS => ?_)
        (refine tk 0 hS ?_; (try simp only [Act.put, layA, layB, layC]))
        (refine tk 1 hS ?_; (try simp only [Act.put, layA, layB, layC]))
        (refine tk 2 hS ?_; (try simp only [Act.put, layA, layB, layC]))
        (refine tk 3 hS ?_; (try simp only [Act.put, layA, layB, layC]))
        (refine tk 4 hS ?_; (try simp only [Act.put, layA, layB, layC]))
        (refine tk 5 hS ?_; (try simp only [Act.put, layA, layB, layC]))
        (refine tk 6 hS ?_; (try simp only [Act.put, layA, layB, layC]))
        (refine tk 7 hS ?_; (try simp only [Act.put, layA, layB, layC]))
        refine on 8 ?_
        refine callH (by go_simp; (first | done | with_reducible rfl | exact ⟨rfl, rfl⟩)) ?_
        go_at_call 121
        refine (sl24Value_L kI0 (RdL.b kH) kL1n (RdL.b (ls := [((.slice yA0 yn0 yc0), .ints yL0), ((.slice yA1 yn1 yc1), .ints yL1)]) (RdL.sub yH (by simp))) yL0n yL1n).mono ?_
        rintro e w6 ⟨rfl, b6⟩
        clear hS
        have z6 := Below.size b6
        (try simp only [World.size_alloc, World.size_setCell, size_drew] at z6)
        have B6 : Below w.heap.size w w6 := Below.t b6
        have xk_ : Box w6 (w.heap.size) #[.int .i64 kI0, (.slice kA1 kn1 kc1)] 33 := (Box.b xk.drew b6)
        clear xk; have xk := xk_; clear xk_
        have xx_ : Box w6 (w.heap.size + 1) #[(.slice xA0 xn0 xc0), (.slice xA1 xn1 xc1), (.slice xA2 xn2 xc2), (.slice xA3 xn3 xc3), (.slice xA4 xn4 xc4), (.slice xA5 xn5 xc5)] 68 := (Box.b xx.drew b6)
        clear xx; have xx := xx_; clear xx_
        have xy_ : Box w6 (w.heap.size + 1 + 1) #[(.slice yA0 yn0 yc0), (.slice yA1 yn1 yc1), (.slice yA2 yn2 yc2), (.slice yA3 yn3 yc3), (.slice yA4 yn4 yc4), (.slice yA5 yn5 yc5)] 68 := (Box.b xy.drew b6)
        clear xy; have xy := xy_; clear xy_
        have xo_ : Box w6 (w1.heap.size) #[.int .i64 (soD kI0 kL1 xL0 xL1 xL2 xL3 yL0 yL1 yL2 yL3 rI0), .int .i64 (soE kI0 kL1 xL0 xL1 xL2 xL3 yL0 yL1 yL2 yL3 rI0)] 73 := (Box.b xo.drew b6)
        clear xo; have xo := xo_; clear xo_
        refine ⟨_, rfl, ⟨xk.two.1, xk.two.2.1, xx.six.1, xx.six.2.1, xx.six.2.2.1, xx.six.2.2.2.1, xx.six.2.2.2.2.1, xx.six.2.2.2.2.2.1, xy.six.1, xy.six.2.1, xy.six.2.2.1, xy.six.2.2.2.1, xy.six.2.2.2.2.1, xy.six.2.2.2.2.2.1, xo.two.1, xo.two.2.1⟩, fun hS => ?_⟩
        (try simp only [Act.put, layA, layB, layC])
        refine on 9 ?_
        refine callH (by go_simp; (first | done | with_reducible rfl | exact ⟨rfl, rfl⟩)) ?_
        go_at_call 105
        refine (sFMul_any _ _ _ _).mono ?_
        rintro e w_ ⟨rfl, rfl⟩
        refine ⟨_, rfl, hS, fun hS => ?_⟩
        (try simp only [Act.put, layA, layB, layC])
        refine on 10 ?_
        refine callH (by go_simp; (first | done | with_reducible rfl | exact ⟨rfl, rfl⟩)) ?_
        go_at_call 88
        refine (sFSub_any _ _ _ _).mono ?_
        rintro e w_ ⟨rfl, rfl⟩
        refine ⟨_, rfl, hS, fun hS => ?_⟩
        (try simp only [Act.put, layA, layB, layC])
        (refine tk 11 hS ?_; (try simp only [Act.put, layA, layB, layC]))
        clear hS
        refine wpAnyH_done (by kernel_rfl) ?_ _
        obtain ⟨cxk_0, cxk_1, fxk_0, fxk_1⟩ := xk.two
        have l_xk_0 : w.heap.size < w6.heap.size := by omega
        obtain ⟨cxx_0, cxx_1, cxx_2, cxx_3, cxx_4, cxx_5, fxx_0, fxx_1, fxx_2, fxx_3, fxx_4, fxx_5⟩ := xx.six
        have l_xx_0 : w.heap.size + 1 < w6.heap.size := by omega
        obtain ⟨cxy_0, cxy_1, cxy_2, cxy_3, cxy_4, cxy_5, fxy_0, fxy_1, fxy_2, fxy_3, fxy_4, fxy_5⟩ := xy.six
        have l_xy_0 : w.heap.size + 1 + 1 < w6.heap.size := by omega
        obtain ⟨cxo_0, cxo_1, fxo_0, fxo_1⟩ := xo.two
        have l_xo_0 : w1.heap.size < w6.heap.size := by omega
        go_wp2_with fail
        clear cxk_0 cxk_1 fxk_0 fxk_1 l_xk_0 cxx_0 cxx_1 cxx_2 cxx_3 cxx_4 cxx_5 fxx_0 fxx_1 fxx_2 fxx_3 fxx_4 fxx_5 l_xx_0 cxy_0 cxy_1 cxy_2 cxy_3 cxy_4 cxy_5 fxy_0 fxy_1 fxy_2 fxy_3 fxy_4 fxy_5 l_xy_0 cxo_0 cxo_1 fxo_0 fxo_1 l_xo_0
        refine wp_region_held_drew (S := fun W => W.cell? ⟨w.heap.size, 0, none⟩ = some (.int .i64 kI0) ∧ W.cell? ⟨w.heap.size, 1, none⟩ = some ((.slice kA1 kn1 kc1)) ∧ W.cell? ⟨w.heap.size + 1, 0, none⟩ = some ((.slice xA0 xn0 xc0)) ∧ W.cell? ⟨w.heap.size + 1, 1, none⟩ = some ((.slice xA1 xn1 xc1)) ∧ W.cell? ⟨w.heap.size + 1, 2, none⟩ = some ((.slice xA2 xn2 xc2)) ∧ W.cell? ⟨w.heap.size + 1, 3, none⟩ = some ((.slice xA3 xn3 xc3)) ∧ W.cell? ⟨w.heap.size + 1, 4, none⟩ = some ((.slice xA4 xn4 xc4)) ∧ W.cell? ⟨w.heap.size + 1, 5, none⟩ = some ((.slice xA5 xn5 xc5)) ∧ W.cell? ⟨w.heap.size + 1 + 1, 0, none⟩ = some ((.slice yA0 yn0 yc0)) ∧ W.cell? ⟨w.heap.size + 1 + 1, 1, none⟩ = some ((.slice yA1 yn1 yc1)) ∧ W.cell? ⟨w.heap.size + 1 + 1, 2, none⟩ = some ((.slice yA2 yn2 yc2)) ∧ W.cell? ⟨w.heap.size + 1 + 1, 3, none⟩ = some ((.slice yA3 yn3 yc3)) ∧ W.cell? ⟨w.heap.size + 1 + 1, 4, none⟩ = some ((.slice yA4 yn4 yc4)) ∧ W.cell? ⟨w.heap.size + 1 + 1, 5, none⟩ = some ((.slice yA5 yn5 yc5)) ∧ W.cell? ⟨w1.heap.size, 0, none⟩ = some (.int .i64 (soD kI0 kL1 xL0 xL1 xL2 xL3 yL0 yL1 yL2 yL3 rI0)) ∧ W.cell? ⟨w1.heap.size, 1, none⟩ = some (.int .i64 (soE kI0 kL1 xL0 xL1 xL2 xL3 yL0 yL1 yL2 yL3 rI0))) (by kernel_rfl) ⟨xk.drew.two.1, xk.drew.two.2.1, xx.drew.six.1, xx.drew.six.2.1, xx.drew.six.2.2.1, xx.drew.six.2.2.2.1, xx.drew.six.2.2.2.2.1, xx.drew.six.2.2.2.2.2.1, xy.drew.six.1, xy.drew.six.2.1, xy.drew.six.2.2.1, xy.drew.six.2.2.2.1, xy.drew.six.2.2.2.2.1, xy.drew.six.2.2.2.2.2.1, xo.drew.two.1, xo.drew.two.2.1⟩ (fun hS => ?_)
        (refine tk 0 hS ?_; (try simp only [Act.put, layA, layB, layC]))
        (refine tk 1 hS ?_; (try simp only [Act.put, layA, layB, layC]))
        (refine tk 2 hS ?_; (try simp only [Act.put, layA, layB, layC]))
        (refine tk 3 hS ?_; (try simp only [Act.put, layA, layB, layC]))
        (refine tk 4 hS ?_; (try simp only [Act.put, layA, layB, layC]))
        (refine tk 5 hS ?_; (try simp only [Act.put, layA, layB, layC]))
        (refine tk 6 hS ?_; (try simp only [Act.put, layA, layB, layC]))
        (refine tk 7 hS ?_; (try simp only [Act.put, layA, layB, layC]))
        refine on 8 ?_
        refine callH (by go_simp; (first | done | with_reducible rfl | exact ⟨rfl, rfl⟩)) ?_
        go_at_call 121
        refine (sl24Value_L kI0 (RdL.b kH) kL1n (RdL.b (ls := [((.slice yA2 yn2 yc2), .ints yL2), ((.slice yA3 yn3 yc3), .ints yL3)]) (RdL.sub yH (by simp))) yL2n yL3n).mono ?_
        rintro e w7 ⟨rfl, b7⟩
        clear hS
        have z7 := Below.size b7
        (try simp only [World.size_alloc, World.size_setCell, size_drew] at z7)
        have B7 : Below w.heap.size w w7 := Below.t b7
        have xk_ : Box w7 (w.heap.size) #[.int .i64 kI0, (.slice kA1 kn1 kc1)] 33 := (Box.b xk.drew b7)
        clear xk; have xk := xk_; clear xk_
        have xx_ : Box w7 (w.heap.size + 1) #[(.slice xA0 xn0 xc0), (.slice xA1 xn1 xc1), (.slice xA2 xn2 xc2), (.slice xA3 xn3 xc3), (.slice xA4 xn4 xc4), (.slice xA5 xn5 xc5)] 68 := (Box.b xx.drew b7)
        clear xx; have xx := xx_; clear xx_
        have xy_ : Box w7 (w.heap.size + 1 + 1) #[(.slice yA0 yn0 yc0), (.slice yA1 yn1 yc1), (.slice yA2 yn2 yc2), (.slice yA3 yn3 yc3), (.slice yA4 yn4 yc4), (.slice yA5 yn5 yc5)] 68 := (Box.b xy.drew b7)
        clear xy; have xy := xy_; clear xy_
        have xo_ : Box w7 (w1.heap.size) #[.int .i64 (soD kI0 kL1 xL0 xL1 xL2 xL3 yL0 yL1 yL2 yL3 rI0), .int .i64 (soE kI0 kL1 xL0 xL1 xL2 xL3 yL0 yL1 yL2 yL3 rI0)] 73 := (Box.b xo.drew b7)
        clear xo; have xo := xo_; clear xo_
        refine ⟨_, rfl, ⟨xk.two.1, xk.two.2.1, xx.six.1, xx.six.2.1, xx.six.2.2.1, xx.six.2.2.2.1, xx.six.2.2.2.2.1, xx.six.2.2.2.2.2.1, xy.six.1, xy.six.2.1, xy.six.2.2.1, xy.six.2.2.2.1, xy.six.2.2.2.2.1, xy.six.2.2.2.2.2.1, xo.two.1, xo.two.2.1⟩, fun hS => ?_⟩
        (try simp only [Act.put, layA, layB, layC])
        refine on 9 ?_
        refine callH (by go_simp; (first | done | with_reducible rfl | exact ⟨rfl, rfl⟩)) ?_
        go_at_call 105
        refine (sFMul_any _ _ _ _).mono ?_
        rintro e w_ ⟨rfl, rfl⟩
        refine ⟨_, rfl, hS, fun hS => ?_⟩
        (try simp only [Act.put, layA, layB, layC])
        refine on 10 ?_
        refine callH (by go_simp; (first | done | with_reducible rfl | exact ⟨rfl, rfl⟩)) ?_
        go_at_call 88
        refine (sFSub_any _ _ _ _).mono ?_
        rintro e w_ ⟨rfl, rfl⟩
        refine ⟨_, rfl, hS, fun hS => ?_⟩
        (try simp only [Act.put, layA, layB, layC])
        (refine tk 11 hS ?_; (try simp only [Act.put, layA, layB, layC]))
        clear hS
        refine wpAnyH_done (by kernel_rfl) ?_ _
        obtain ⟨cxo_0, cxo_1, fxo_0, fxo_1⟩ := xo.two
        have l_xo_0 : w1.heap.size < w7.heap.size := by omega
        go_wp2_with fail
        refine (sFMul_any _ _ _ _).mono ?_
        rintro e w_ ⟨rfl, rfl⟩
        go_wp2_with fail
        refine (sFSub_any _ _ _ _).mono ?_
        rintro e w_ ⟨rfl, rfl⟩
        go_wp2
        go_ret
        exact ⟨ret_bool (by rw [HE.out, k1, k2, k3, HN k1]; simp), by repeat (with_reducible (first | assumption | exact Below.refl _ _ | refine Below.alloc ?_ (by first | omega | (simp; done) | (simp; omega)) _ | refine Below.setCell ?_ (by first | omega | (simp; done) | (simp; omega)) _ | refine Below.drew ?_ | refine below_drewN ?_ _))⟩
set_option maxRecDepth 100000 in
set_option maxHeartbeats 2000000 in
theorem iSacrificeOk_L {kA1 : Option Addr} {kn1 kc1 : Nat} {kL1 : List Int} {xA0 : Option Addr} {xn0 xc0 : Nat} {xL0 : List Int} {xA1 : Option Addr} {xn1 xc1 : Nat} {xL1 : List Int} {xA2 : Option Addr} {xn2 xc2 : Nat} {xL2 : List Int} {xA3 : Option Addr} {xn3 xc3 : Nat} {xL3 : List Int} {xA4 : Option Addr} {xn4 xc4 : Nat} {xL4 : List Int} {xA5 : Option Addr} {xn5 xc5 : Nat} {xL5 : List Int} {yA0 : Option Addr} {yn0 yc0 : Nat} {yL0 : List Int} {yA1 : Option Addr} {yn1 yc1 : Nat} {yL1 : List Int} {yA2 : Option Addr} {yn2 yc2 : Nat} {yL2 : List Int} {yA3 : Option Addr} {yn3 yc3 : Nat} {yL3 : List Int} {yA4 : Option Addr} {yn4 yc4 : Nat} {yL4 : List Int} {yA5 : Option Addr} {yn5 yc5 : Nat} {yL5 : List Int} {w : World} (kI0 : Int) (kH : RdL w [((.slice kA1 kn1 kc1), .ints kL1)]) (kL1n : kL1.length ≤ 1048576) (xH : RdL w [((.slice xA0 xn0 xc0), .ints xL0), ((.slice xA1 xn1 xc1), .ints xL1), ((.slice xA2 xn2 xc2), .ints xL2), ((.slice xA3 xn3 xc3), .ints xL3), ((.slice xA4 xn4 xc4), .ints xL4), ((.slice xA5 xn5 xc5), .ints xL5)]) (xL0n : xL0.length ≤ 1048576) (xL1n : xL1.length ≤ 1048576) (xL2n : xL2.length ≤ 1048576) (xL3n : xL3.length ≤ 1048576) (xL4n : xL4.length ≤ 1048576) (xL5n : xL5.length ≤ 1048576) (yH : RdL w [((.slice yA0 yn0 yc0), .ints yL0), ((.slice yA1 yn1 yc1), .ints yL1), ((.slice yA2 yn2 yc2), .ints yL2), ((.slice yA3 yn3 yc3), .ints yL3), ((.slice yA4 yn4 yc4), .ints yL4), ((.slice yA5 yn5 yc5), .ints yL5)]) (yL0n : yL0.length ≤ 1048576) (yL1n : yL1.length ≤ 1048576) (yL2n : yL2.length ≤ 1048576) (yL3n : yL3.length ≤ 1048576) (yL4n : yL4.length ≤ 1048576) (yL5n : yL5.length ≤ 1048576) (rI0 : Int) :
    Calls Try.prog 69 #[.agg #[.int .i64 kI0, (.slice kA1 kn1 kc1)], .agg #[(.slice xA0 xn0 xc0), (.slice xA1 xn1 xc1), (.slice xA2 xn2 xc2), (.slice xA3 xn3 xc3), (.slice xA4 xn4 xc4), (.slice xA5 xn5 xc5)], .agg #[(.slice yA0 yn0 yc0), (.slice yA1 yn1 yc1), (.slice yA2 yn2 yc2), (.slice yA3 yn3 yc3), (.slice yA4 yn4 yc4), (.slice yA5 yn5 yc5)], .int .i64 rI0] w fun e w' => e = .returned (.bool (sacOk kI0 kL1 xL0 xL1 xL2 xL3 xL4 xL5 yL0 yL1 yL2 yL3 yL4 yL5 rI0)) ∧ Below w.heap.size w w' := by
  have kL1i : Ints w kA1 kn1 kL1 := Rd.toInts (kH ((.slice kA1 kn1 kc1), .ints kL1) (by simp))
  have kL1l := Lib.hid kL1i.len
  have kL1m : kn1 ≤ 1048576 := by rw [← kL1l.out]; exact kL1n
  have xL0i : Ints w xA0 xn0 xL0 := Rd.toInts (xH ((.slice xA0 xn0 xc0), .ints xL0) (by simp))
  have xL0l := Lib.hid xL0i.len
  have xL0m : xn0 ≤ 1048576 := by rw [← xL0l.out]; exact xL0n
  have xL1i : Ints w xA1 xn1 xL1 := Rd.toInts (xH ((.slice xA1 xn1 xc1), .ints xL1) (by simp))
  have xL1l := Lib.hid xL1i.len
  have xL1m : xn1 ≤ 1048576 := by rw [← xL1l.out]; exact xL1n
  have xL2i : Ints w xA2 xn2 xL2 := Rd.toInts (xH ((.slice xA2 xn2 xc2), .ints xL2) (by simp))
  have xL2l := Lib.hid xL2i.len
  have xL2m : xn2 ≤ 1048576 := by rw [← xL2l.out]; exact xL2n
  have xL3i : Ints w xA3 xn3 xL3 := Rd.toInts (xH ((.slice xA3 xn3 xc3), .ints xL3) (by simp))
  have xL3l := Lib.hid xL3i.len
  have xL3m : xn3 ≤ 1048576 := by rw [← xL3l.out]; exact xL3n
  have xL4i : Ints w xA4 xn4 xL4 := Rd.toInts (xH ((.slice xA4 xn4 xc4), .ints xL4) (by simp))
  have xL4l := Lib.hid xL4i.len
  have xL4m : xn4 ≤ 1048576 := by rw [← xL4l.out]; exact xL4n
  have xL5i : Ints w xA5 xn5 xL5 := Rd.toInts (xH ((.slice xA5 xn5 xc5), .ints xL5) (by simp))
  have xL5l := Lib.hid xL5i.len
  have xL5m : xn5 ≤ 1048576 := by rw [← xL5l.out]; exact xL5n
  have yL0i : Ints w yA0 yn0 yL0 := Rd.toInts (yH ((.slice yA0 yn0 yc0), .ints yL0) (by simp))
  have yL0l := Lib.hid yL0i.len
  have yL0m : yn0 ≤ 1048576 := by rw [← yL0l.out]; exact yL0n
  have yL1i : Ints w yA1 yn1 yL1 := Rd.toInts (yH ((.slice yA1 yn1 yc1), .ints yL1) (by simp))
  have yL1l := Lib.hid yL1i.len
  have yL1m : yn1 ≤ 1048576 := by rw [← yL1l.out]; exact yL1n
  have yL2i : Ints w yA2 yn2 yL2 := Rd.toInts (yH ((.slice yA2 yn2 yc2), .ints yL2) (by simp))
  have yL2l := Lib.hid yL2i.len
  have yL2m : yn2 ≤ 1048576 := by rw [← yL2l.out]; exact yL2n
  have yL3i : Ints w yA3 yn3 yL3 := Rd.toInts (yH ((.slice yA3 yn3 yc3), .ints yL3) (by simp))
  have yL3l := Lib.hid yL3i.len
  have yL3m : yn3 ≤ 1048576 := by rw [← yL3l.out]; exact yL3n
  have yL4i : Ints w yA4 yn4 yL4 := Rd.toInts (yH ((.slice yA4 yn4 yc4), .ints yL4) (by simp))
  have yL4l := Lib.hid yL4i.len
  have yL4m : yn4 ≤ 1048576 := by rw [← yL4l.out]; exact yL4n
  have yL5i : Ints w yA5 yn5 yL5 := Rd.toInts (yH ((.slice yA5 yn5 yc5), .ints yL5) (by simp))
  have yL5l := Lib.hid yL5i.len
  have yL5m : yn5 ≤ 1048576 := by rw [← yL5l.out]; exact yL5n
  have HE : Hid (sacOk kI0 kL1 xL0 xL1 xL2 xL3 xL4 xL5 yL0 yL1 yL2 yL3 yL4 yL5 rI0 = (sOpOk kI0 kL1 xL0 xL1 xL2 xL3 yL0 yL1 yL2 yL3 rI0 && formOk kI0 kL1 xL4 xL5 && formOk kI0 kL1 yL4 yL5 && (sacN kI0 rI0 (fsum kI0 xL0) (fsum kI0 xL2) (fsum kI0 xL4) (fsum kI0 yL0) (fsum kI0 yL2) (fsum kI0 yL4) == 0))) := rfl
  have HN : sOpOk kI0 kL1 xL0 xL1 xL2 xL3 yL0 yL1 yL2 yL3 rI0 = true → sacN kI0 rI0 (fsum kI0 xL0) (fsum kI0 xL2) (fsum kI0 xL4) (fsum kI0 yL0) (fsum kI0 yL2) (fsum kI0 yL4) = fsub kI0 (fsub kI0 (fsub kI0 (fsub kI0 (fmul kI0 rI0 (fsum kI0 xL4)) (fsum kI0 yL4)) (fmul kI0 (soE kI0 kL1 xL0 xL1 xL2 xL3 yL0 yL1 yL2 yL3 rI0) (fsum kI0 yL0))) (fmul kI0 (soD kI0 kL1 xL0 xL1 xL2 xL3 yL0 yL1 yL2 yL3 rI0) (fsum kI0 yL2))) (fmul kI0 (soD kI0 kL1 xL0 xL1 xL2 xL3 yL0 yL1 yL2 yL3 rI0) (soE kI0 kL1 xL0 xL1 xL2 xL3 yL0 yL1 yL2 yL3 rI0)) := fun h => by rw [soD_yes h, soE_yes h]; rfl
  cases k1 : sOpOk kI0 kL1 xL0 xL1 xL2 xL3 yL0 yL1 yL2 yL3 rI0 with
  | false =>
    go_enter Try.func69, Try.ntmps69
    go_wp2_with fail
    refine (iSacrificeOpen_L kI0 (RdL.b kH) kL1n (RdL.b xH) xL0n xL1n xL2n xL3n xL4n xL5n (RdL.b yH) yL0n yL1n yL2n yL3n yL4n yL5n rI0).mono ?_
    rintro e w1 ⟨rfl, b1⟩
    have z1 := b1.size
    try simp only [World.size_alloc, World.size_setCell, size_drew] at z1
    have B1 : Below w.heap.size w w1 := Below.t b1
    have xk_ : Box w1 (w.heap.size) #[.int .i64 kI0, (.slice kA1 kn1 kc1)] 33 := (((Box.new (g := w.heap.size) _ #[.int .i64 kI0, (.slice kA1 kn1 kc1)] 33 (by simp)).alloc _).alloc _).below b1 (by first | omega | (simp [size_drew]; done) | (simp [size_drew]; omega))
    have xk := xk_; clear xk_
    have xx_ : Box w1 (w.heap.size + 1) #[(.slice xA0 xn0 xc0), (.slice xA1 xn1 xc1), (.slice xA2 xn2 xc2), (.slice xA3 xn3 xc3), (.slice xA4 xn4 xc4), (.slice xA5 xn5 xc5)] 68 := ((Box.new (g := w.heap.size + 1) _ #[(.slice xA0 xn0 xc0), (.slice xA1 xn1 xc1), (.slice xA2 xn2 xc2), (.slice xA3 xn3 xc3), (.slice xA4 xn4 xc4), (.slice xA5 xn5 xc5)] 68 (by simp)).alloc _).below b1 (by first | omega | (simp [size_drew]; done) | (simp [size_drew]; omega))
    have xx := xx_; clear xx_
    have xy_ : Box w1 (w.heap.size + 1 + 1) #[(.slice yA0 yn0 yc0), (.slice yA1 yn1 yc1), (.slice yA2 yn2 yc2), (.slice yA3 yn3 yc3), (.slice yA4 yn4 yc4), (.slice yA5 yn5 yc5)] 68 := (Box.new (g := w.heap.size + 1 + 1) _ #[(.slice yA0 yn0 yc0), (.slice yA1 yn1 yc1), (.slice yA2 yn2 yc2), (.slice yA3 yn3 yc3), (.slice yA4 yn4 yc4), (.slice yA5 yn5 yc5)] 68 (by simp)).below b1 (by first | omega | (simp [size_drew]; done) | (simp [size_drew]; omega))
    have xy := xy_; clear xy_
    go_wp2
    go_ret
    exact ⟨ret_bool (by rw [HE.out, k1]; simp), by repeat (with_reducible (first | assumption | exact Below.refl _ _ | refine Below.alloc ?_ (by first | omega | (simp; done) | (simp; omega)) _ | refine Below.setCell ?_ (by first | omega | (simp; done) | (simp; omega)) _ | refine Below.drew ?_ | refine below_drewN ?_ _))⟩
  | true =>
    cases k2 : (formOk kI0 kL1 xL4 xL5 && formOk kI0 kL1 yL4 yL5) with
    | false =>
      have k9 : isFormB kI0 kL1 [(xL4, xL5), (yL4, yL5)] = false := by rw [isFormB2]; exact k2
      go_enter Try.func69, Try.ntmps69
      go_wp2_with fail
      refine (iSacrificeOpen_L kI0 (RdL.b kH) kL1n (RdL.b xH) xL0n xL1n xL2n xL3n xL4n xL5n (RdL.b yH) yL0n yL1n yL2n yL3n yL4n yL5n rI0).mono ?_
      rintro e w1 ⟨rfl, b1⟩
      have z1 := b1.size
      try simp only [World.size_alloc, World.size_setCell, size_drew] at z1
      have B1 : Below w.heap.size w w1 := Below.t b1
      have xk_ : Box w1 (w.heap.size) #[.int .i64 kI0, (.slice kA1 kn1 kc1)] 33 := (((Box.new (g := w.heap.size) _ #[.int .i64 kI0, (.slice kA1 kn1 kc1)] 33 (by simp)).alloc _).alloc _).below b1 (by first | omega | (simp [size_drew]; done) | (simp [size_drew]; omega))
      have xk := xk_; clear xk_
      have xx_ : Box w1 (w.heap.size + 1) #[(.slice xA0 xn0 xc0), (.slice xA1 xn1 xc1), (.slice xA2 xn2 xc2), (.slice xA3 xn3 xc3), (.slice xA4 xn4 xc4), (.slice xA5 xn5 xc5)] 68 := ((Box.new (g := w.heap.size + 1) _ #[(.slice xA0 xn0 xc0), (.slice xA1 xn1 xc1), (.slice xA2 xn2 xc2), (.slice xA3 xn3 xc3), (.slice xA4 xn4 xc4), (.slice xA5 xn5 xc5)] 68 (by simp)).alloc _).below b1 (by first | omega | (simp [size_drew]; done) | (simp [size_drew]; omega))
      have xx := xx_; clear xx_
      have xy_ : Box w1 (w.heap.size + 1 + 1) #[(.slice yA0 yn0 yc0), (.slice yA1 yn1 yc1), (.slice yA2 yn2 yc2), (.slice yA3 yn3 yc3), (.slice yA4 yn4 yc4), (.slice yA5 yn5 yc5)] 68 := (Box.new (g := w.heap.size + 1 + 1) _ #[(.slice yA0 yn0 yc0), (.slice yA1 yn1 yc1), (.slice yA2 yn2 yc2), (.slice yA3 yn3 yc3), (.slice yA4 yn4 yc4), (.slice yA5 yn5 yc5)] 68 (by simp)).below b1 (by first | omega | (simp [size_drew]; done) | (simp [size_drew]; omega))
      have xy := xy_; clear xy_
      obtain ⟨cxk_0, cxk_1, fxk_0, fxk_1⟩ := xk.two
      have l_xk_0 : w.heap.size < w1.heap.size := by omega
      have l_xk_1 : w.heap.size < w1.heap.size + 1 := by omega
      have l_xk_2 : w.heap.size < w1.heap.size + 1 + 1 := by omega
      obtain ⟨cxx_0, cxx_1, cxx_2, cxx_3, cxx_4, cxx_5, fxx_0, fxx_1, fxx_2, fxx_3, fxx_4, fxx_5⟩ := xx.six
      have l_xx_0 : w.heap.size + 1 < w1.heap.size := by omega
      have l_xx_1 : w.heap.size + 1 < w1.heap.size + 1 := by omega
      have l_xx_2 : w.heap.size + 1 < w1.heap.size + 1 + 1 := by omega
      obtain ⟨cxy_0, cxy_1, cxy_2, cxy_3, cxy_4, cxy_5, fxy_0, fxy_1, fxy_2, fxy_3, fxy_4, fxy_5⟩ := xy.six
      have l_xy_0 : w.heap.size + 1 + 1 < w1.heap.size := by omega
      have l_xy_1 : w.heap.size + 1 + 1 < w1.heap.size + 1 := by omega
      have l_xy_2 : w.heap.size + 1 + 1 < w1.heap.size + 1 + 1 := by omega
      go_wp2_with fail
      refine (isForm_any kI0 (RdL.b kH) kL1n _ 2 _ [(xL4, xL5), (yL4, yL5)] (AuthsAt.mk2 xL4i.b xL4m xL5i.b xL5m yL4i.b yL4m yL5i.b yL5m (by simp)) (by omega)).mono ?_
      rintro e w2 ⟨rfl, b2⟩
      clear cxk_0 cxk_1 fxk_0 fxk_1 l_xk_0 l_xk_1 l_xk_2 cxx_0 cxx_1 cxx_2 cxx_3 cxx_4 cxx_5 fxx_0 fxx_1 fxx_2 fxx_3 fxx_4 fxx_5 l_xx_0 l_xx_1 l_xx_2 cxy_0 cxy_1 cxy_2 cxy_3 cxy_4 cxy_5 fxy_0 fxy_1 fxy_2 fxy_3 fxy_4 fxy_5 l_xy_0 l_xy_1 l_xy_2
      have z2 := b2.size
      try simp only [World.size_alloc, World.size_setCell, size_drew] at z2
      have B2 : Below w.heap.size w w2 := Below.t b2
      have xk_ : Box w2 (w.heap.size) #[.int .i64 kI0, (.slice kA1 kn1 kc1)] 33 := ((xk.alloc _).alloc _).below b2 (by first | omega | (simp [size_drew]; done) | (simp [size_drew]; omega))
      clear xk; have xk := xk_; clear xk_
      have xx_ : Box w2 (w.heap.size + 1) #[(.slice xA0 xn0 xc0), (.slice xA1 xn1 xc1), (.slice xA2 xn2 xc2), (.slice xA3 xn3 xc3), (.slice xA4 xn4 xc4), (.slice xA5 xn5 xc5)] 68 := ((xx.alloc _).alloc _).below b2 (by first | omega | (simp [size_drew]; done) | (simp [size_drew]; omega))
      clear xx; have xx := xx_; clear xx_
      have xy_ : Box w2 (w.heap.size + 1 + 1) #[(.slice yA0 yn0 yc0), (.slice yA1 yn1 yc1), (.slice yA2 yn2 yc2), (.slice yA3 yn3 yc3), (.slice yA4 yn4 yc4), (.slice yA5 yn5 yc5)] 68 := ((xy.alloc _).alloc _).below b2 (by first | omega | (simp [size_drew]; done) | (simp [size_drew]; omega))
      clear xy; have xy := xy_; clear xy_
      have xo_ : Box w2 (w1.heap.size) #[.int .i64 (soD kI0 kL1 xL0 xL1 xL2 xL3 yL0 yL1 yL2 yL3 rI0), .int .i64 (soE kI0 kL1 xL0 xL1 xL2 xL3 yL0 yL1 yL2 yL3 rI0)] 73 := ((Box.new (g := w1.heap.size) _ #[.int .i64 (soD kI0 kL1 xL0 xL1 xL2 xL3 yL0 yL1 yL2 yL3 rI0), .int .i64 (soE kI0 kL1 xL0 xL1 xL2 xL3 yL0 yL1 yL2 yL3 rI0)] 73 (by simp)).alloc _).below b2 (by first | omega | (simp [size_drew]; done) | (simp [size_drew]; omega))
      have xo := xo_; clear xo_
      have xlit_ : Box w2 (w1.heap.size + 1) #[(.slice xA4 xn4 xc4), (.slice xA5 xn5 xc5), (.slice yA4 yn4 yc4), (.slice yA5 yn5 yc5)] 38 := (Box.new (g := w1.heap.size + 1) _ #[(.slice xA4 xn4 xc4), (.slice xA5 xn5 xc5), (.slice yA4 yn4 yc4), (.slice yA5 yn5 yc5)] 38 (by simp)).below b2 (by first | omega | (simp [size_drew]; done) | (simp [size_drew]; omega))
      have xlit := xlit_; clear xlit_
      go_wp2
      go_ret
      exact ⟨ret_bool (by rw [HE.out, k1, Bool.true_and, k2]; simp), by repeat (with_reducible (first | assumption | exact Below.refl _ _ | refine Below.alloc ?_ (by first | omega | (simp; done) | (simp; omega)) _ | refine Below.setCell ?_ (by first | omega | (simp; done) | (simp; omega)) _ | refine Below.drew ?_ | refine below_drewN ?_ _))⟩
    | true =>
      have k9 : isFormB kI0 kL1 [(xL4, xL5), (yL4, yL5)] = true := by rw [isFormB2]; exact k2
      go_enter Try.func69, Try.ntmps69
      go_wp2_with fail
      refine (iSacrificeOpen_L kI0 (RdL.b kH) kL1n (RdL.b xH) xL0n xL1n xL2n xL3n xL4n xL5n (RdL.b yH) yL0n yL1n yL2n yL3n yL4n yL5n rI0).mono ?_
      rintro e w1 ⟨rfl, b1⟩
      have z1 := b1.size
      try simp only [World.size_alloc, World.size_setCell, size_drew] at z1
      have B1 : Below w.heap.size w w1 := Below.t b1
      have xk_ : Box w1 (w.heap.size) #[.int .i64 kI0, (.slice kA1 kn1 kc1)] 33 := (((Box.new (g := w.heap.size) _ #[.int .i64 kI0, (.slice kA1 kn1 kc1)] 33 (by simp)).alloc _).alloc _).below b1 (by first | omega | (simp [size_drew]; done) | (simp [size_drew]; omega))
      have xk := xk_; clear xk_
      have xx_ : Box w1 (w.heap.size + 1) #[(.slice xA0 xn0 xc0), (.slice xA1 xn1 xc1), (.slice xA2 xn2 xc2), (.slice xA3 xn3 xc3), (.slice xA4 xn4 xc4), (.slice xA5 xn5 xc5)] 68 := ((Box.new (g := w.heap.size + 1) _ #[(.slice xA0 xn0 xc0), (.slice xA1 xn1 xc1), (.slice xA2 xn2 xc2), (.slice xA3 xn3 xc3), (.slice xA4 xn4 xc4), (.slice xA5 xn5 xc5)] 68 (by simp)).alloc _).below b1 (by first | omega | (simp [size_drew]; done) | (simp [size_drew]; omega))
      have xx := xx_; clear xx_
      have xy_ : Box w1 (w.heap.size + 1 + 1) #[(.slice yA0 yn0 yc0), (.slice yA1 yn1 yc1), (.slice yA2 yn2 yc2), (.slice yA3 yn3 yc3), (.slice yA4 yn4 yc4), (.slice yA5 yn5 yc5)] 68 := (Box.new (g := w.heap.size + 1 + 1) _ #[(.slice yA0 yn0 yc0), (.slice yA1 yn1 yc1), (.slice yA2 yn2 yc2), (.slice yA3 yn3 yc3), (.slice yA4 yn4 yc4), (.slice yA5 yn5 yc5)] 68 (by simp)).below b1 (by first | omega | (simp [size_drew]; done) | (simp [size_drew]; omega))
      have xy := xy_; clear xy_
      obtain ⟨cxk_0, cxk_1, fxk_0, fxk_1⟩ := xk.two
      have l_xk_0 : w.heap.size < w1.heap.size := by omega
      have l_xk_1 : w.heap.size < w1.heap.size + 1 := by omega
      have l_xk_2 : w.heap.size < w1.heap.size + 1 + 1 := by omega
      obtain ⟨cxx_0, cxx_1, cxx_2, cxx_3, cxx_4, cxx_5, fxx_0, fxx_1, fxx_2, fxx_3, fxx_4, fxx_5⟩ := xx.six
      have l_xx_0 : w.heap.size + 1 < w1.heap.size := by omega
      have l_xx_1 : w.heap.size + 1 < w1.heap.size + 1 := by omega
      have l_xx_2 : w.heap.size + 1 < w1.heap.size + 1 + 1 := by omega
      obtain ⟨cxy_0, cxy_1, cxy_2, cxy_3, cxy_4, cxy_5, fxy_0, fxy_1, fxy_2, fxy_3, fxy_4, fxy_5⟩ := xy.six
      have l_xy_0 : w.heap.size + 1 + 1 < w1.heap.size := by omega
      have l_xy_1 : w.heap.size + 1 + 1 < w1.heap.size + 1 := by omega
      have l_xy_2 : w.heap.size + 1 + 1 < w1.heap.size + 1 + 1 := by omega
      go_wp2_with fail
      refine (isForm_any kI0 (RdL.b kH) kL1n _ 2 _ [(xL4, xL5), (yL4, yL5)] (AuthsAt.mk2 xL4i.b xL4m xL5i.b xL5m yL4i.b yL4m yL5i.b yL5m (by simp)) (by omega)).mono ?_
      rintro e w2 ⟨rfl, b2⟩
      clear cxk_0 cxk_1 fxk_0 fxk_1 l_xk_0 l_xk_1 l_xk_2 cxx_0 cxx_1 cxx_2 cxx_3 cxx_4 cxx_5 fxx_0 fxx_1 fxx_2 fxx_3 fxx_4 fxx_5 l_xx_0 l_xx_1 l_xx_2 cxy_0 cxy_1 cxy_2 cxy_3 cxy_4 cxy_5 fxy_0 fxy_1 fxy_2 fxy_3 fxy_4 fxy_5 l_xy_0 l_xy_1 l_xy_2
      have z2 := b2.size
      try simp only [World.size_alloc, World.size_setCell, size_drew] at z2
      have B2 : Below w.heap.size w w2 := Below.t b2
      have xk_ : Box w2 (w.heap.size) #[.int .i64 kI0, (.slice kA1 kn1 kc1)] 33 := ((xk.alloc _).alloc _).below b2 (by first | omega | (simp [size_drew]; done) | (simp [size_drew]; omega))
      clear xk; have xk := xk_; clear xk_
      have xx_ : Box w2 (w.heap.size + 1) #[(.slice xA0 xn0 xc0), (.slice xA1 xn1 xc1), (.slice xA2 xn2 xc2), (.slice xA3 xn3 xc3), (.slice xA4 xn4 xc4), (.slice xA5 xn5 xc5)] 68 := ((xx.alloc _).alloc _).below b2 (by first | omega | (simp [size_drew]; done) | (simp [size_drew]; omega))
      clear xx; have xx := xx_; clear xx_
      have xy_ : Box w2 (w.heap.size + 1 + 1) #[(.slice yA0 yn0 yc0), (.slice yA1 yn1 yc1), (.slice yA2 yn2 yc2), (.slice yA3 yn3 yc3), (.slice yA4 yn4 yc4), (.slice yA5 yn5 yc5)] 68 := ((xy.alloc _).alloc _).below b2 (by first | omega | (simp [size_drew]; done) | (simp [size_drew]; omega))
      clear xy; have xy := xy_; clear xy_
      have xo_ : Box w2 (w1.heap.size) #[.int .i64 (soD kI0 kL1 xL0 xL1 xL2 xL3 yL0 yL1 yL2 yL3 rI0), .int .i64 (soE kI0 kL1 xL0 xL1 xL2 xL3 yL0 yL1 yL2 yL3 rI0)] 73 := ((Box.new (g := w1.heap.size) _ #[.int .i64 (soD kI0 kL1 xL0 xL1 xL2 xL3 yL0 yL1 yL2 yL3 rI0), .int .i64 (soE kI0 kL1 xL0 xL1 xL2 xL3 yL0 yL1 yL2 yL3 rI0)] 73 (by simp)).alloc _).below b2 (by first | omega | (simp [size_drew]; done) | (simp [size_drew]; omega))
      have xo := xo_; clear xo_
      have xlit_ : Box w2 (w1.heap.size + 1) #[(.slice xA4 xn4 xc4), (.slice xA5 xn5 xc5), (.slice yA4 yn4 yc4), (.slice yA5 yn5 yc5)] 38 := (Box.new (g := w1.heap.size + 1) _ #[(.slice xA4 xn4 xc4), (.slice xA5 xn5 xc5), (.slice yA4 yn4 yc4), (.slice yA5 yn5 yc5)] 38 (by simp)).below b2 (by first | omega | (simp [size_drew]; done) | (simp [size_drew]; omega))
      have xlit := xlit_; clear xlit_
      obtain ⟨cxk_0, cxk_1, fxk_0, fxk_1⟩ := xk.two
      have l_xk_0 : w.heap.size < w2.heap.size := by omega
      obtain ⟨cxx_0, cxx_1, cxx_2, cxx_3, cxx_4, cxx_5, fxx_0, fxx_1, fxx_2, fxx_3, fxx_4, fxx_5⟩ := xx.six
      have l_xx_0 : w.heap.size + 1 < w2.heap.size := by omega
      obtain ⟨cxy_0, cxy_1, cxy_2, cxy_3, cxy_4, cxy_5, fxy_0, fxy_1, fxy_2, fxy_3, fxy_4, fxy_5⟩ := xy.six
      have l_xy_0 : w.heap.size + 1 + 1 < w2.heap.size := by omega
      go_wp2_with fail
      clear cxk_0 cxk_1 fxk_0 fxk_1 l_xk_0 cxx_0 cxx_1 cxx_2 cxx_3 cxx_4 cxx_5 fxx_0 fxx_1 fxx_2 fxx_3 fxx_4 fxx_5 l_xx_0 cxy_0 cxy_1 cxy_2 cxy_3 cxy_4 cxy_5 fxy_0 fxy_1 fxy_2 fxy_3 fxy_4 fxy_5 l_xy_0
      refine wp_region_held_drew (S := fun W => W.cell? ⟨w.heap.size, 0, none⟩ = some (.int .i64 kI0) ∧ W.cell? ⟨w.heap.size, 1, none⟩ = some ((.slice kA1 kn1 kc1)) ∧ W.cell? ⟨w.heap.size + 1, 0, none⟩ = some ((.slice xA0 xn0 xc0)) ∧ W.cell? ⟨w.heap.size + 1, 1, none⟩ = some ((.slice xA1 xn1 xc1)) ∧ W.cell? ⟨w.heap.size + 1, 2, none⟩ = some ((.slice xA2 xn2 xc2)) ∧ W.cell? ⟨w.heap.size + 1, 3, none⟩ = some ((.slice xA3 xn3 xc3)) ∧ W.cell? ⟨w.heap.size + 1, 4, none⟩ = some ((.slice xA4 xn4 xc4)) ∧ W.cell? ⟨w.heap.size + 1, 5, none⟩ = some ((.slice xA5 xn5 xc5)) ∧ W.cell? ⟨w.heap.size + 1 + 1, 0, none⟩ = some ((.slice yA0 yn0 yc0)) ∧ W.cell? ⟨w.heap.size + 1 + 1, 1, none⟩ = some ((.slice yA1 yn1 yc1)) ∧ W.cell? ⟨w.heap.size + 1 + 1, 2, none⟩ = some ((.slice yA2 yn2 yc2)) ∧ W.cell? ⟨w.heap.size + 1 + 1, 3, none⟩ = some ((.slice yA3 yn3 yc3)) ∧ W.cell? ⟨w.heap.size + 1 + 1, 4, none⟩ = some ((.slice yA4 yn4 yc4)) ∧ W.cell? ⟨w.heap.size + 1 + 1, 5, none⟩ = some ((.slice yA5 yn5 yc5))) (by kernel_rfl) ⟨xk.drew.two.1, xk.drew.two.2.1, xx.drew.six.1, xx.drew.six.2.1, xx.drew.six.2.2.1, xx.drew.six.2.2.2.1, xx.drew.six.2.2.2.2.1, xx.drew.six.2.2.2.2.2.1, xy.drew.six.1, xy.drew.six.2.1, xy.drew.six.2.2.1, xy.drew.six.2.2.2.1, xy.drew.six.2.2.2.2.1, xy.drew.six.2.2.2.2.2.1⟩ (fun hS => ?_)
      (refine tk 0 hS ?_; (try simp only [Act.put, layA, layB, layC]))
      (refine tk 1 hS ?_; (try simp only [Act.put, layA, layB, layC]))
      (refine tk 2 hS ?_; (try simp only [Act.put, layA, layB, layC]))
      (refine tk 3 hS ?_; (try simp only [Act.put, layA, layB, layC]))
      (refine tk 4 hS ?_; (try simp only [Act.put, layA, layB, layC]))
      (refine tk 5 hS ?_; (try simp only [Act.put, layA, layB, layC]))
      (refine tk 8 hS ?_; (try simp only [Act.put, layA, layB, layC]))
      (refine tk 9 hS ?_; (try simp only [Act.put, layA, layB, layC]))
      (refine tk 10 hS ?_; (try simp only [Act.put, layA, layB, layC]))
      refine on 6 ?_
      refine callH (by go_simp; (first | done | with_reducible rfl | exact ⟨rfl, rfl⟩)) ?_
      go_at_call 109
      refine (ivalueIn_L kI0 (RdL.b kH) kL1n (RdL.b (ls := [((.slice xA4 xn4 xc4), .ints xL4), ((.slice xA5 xn5 xc5), .ints xL5)]) (RdL.sub xH (by simp))) xL4n xL5n).mono ?_
      rintro e w3 ⟨rfl, b3⟩
      clear hS
      have z3 := Below.size b3
      (try simp only [World.size_alloc, World.size_setCell, size_drew] at z3)
      have B3 : Below w.heap.size w w3 := Below.t b3
      have xk_ : Box w3 (w.heap.size) #[.int .i64 kI0, (.slice kA1 kn1 kc1)] 33 := (Box.b xk.drew b3)
      clear xk; have xk := xk_; clear xk_
      have xx_ : Box w3 (w.heap.size + 1) #[(.slice xA0 xn0 xc0), (.slice xA1 xn1 xc1), (.slice xA2 xn2 xc2), (.slice xA3 xn3 xc3), (.slice xA4 xn4 xc4), (.slice xA5 xn5 xc5)] 68 := (Box.b xx.drew b3)
      clear xx; have xx := xx_; clear xx_
      have xy_ : Box w3 (w.heap.size + 1 + 1) #[(.slice yA0 yn0 yc0), (.slice yA1 yn1 yc1), (.slice yA2 yn2 yc2), (.slice yA3 yn3 yc3), (.slice yA4 yn4 yc4), (.slice yA5 yn5 yc5)] 68 := (Box.b xy.drew b3)
      clear xy; have xy := xy_; clear xy_
      have xo_ : Box w3 (w1.heap.size) #[.int .i64 (soD kI0 kL1 xL0 xL1 xL2 xL3 yL0 yL1 yL2 yL3 rI0), .int .i64 (soE kI0 kL1 xL0 xL1 xL2 xL3 yL0 yL1 yL2 yL3 rI0)] 73 := (Box.b xo.drew b3)
      clear xo; have xo := xo_; clear xo_
      refine ⟨_, rfl, ⟨xk.two.1, xk.two.2.1, xx.six.1, xx.six.2.1, xx.six.2.2.1, xx.six.2.2.2.1, xx.six.2.2.2.2.1, xx.six.2.2.2.2.2.1, xy.six.1, xy.six.2.1, xy.six.2.2.1, xy.six.2.2.2.1, xy.six.2.2.2.2.1, xy.six.2.2.2.2.2.1⟩, fun hS => ?_⟩
      (try simp only [Act.put, layA, layB, layC])
      refine on 7 ?_
      refine callH (by go_simp; (first | done | with_reducible rfl | exact ⟨rfl, rfl⟩)) ?_
      go_at_call 101
      refine (iFMul_any _ _ _ _).mono ?_
      rintro e w4 ⟨rfl, b4⟩
      clear hS
      have z4 := Below.size b4
      (try simp only [World.size_alloc, World.size_setCell, size_drew] at z4)
      have B4 : Below w.heap.size w w4 := Below.t b4
      have xk_ : Box w4 (w.heap.size) #[.int .i64 kI0, (.slice kA1 kn1 kc1)] 33 := (Box.b xk b4)
      clear xk; have xk := xk_; clear xk_
      have xx_ : Box w4 (w.heap.size + 1) #[(.slice xA0 xn0 xc0), (.slice xA1 xn1 xc1), (.slice xA2 xn2 xc2), (.slice xA3 xn3 xc3), (.slice xA4 xn4 xc4), (.slice xA5 xn5 xc5)] 68 := (Box.b xx b4)
      clear xx; have xx := xx_; clear xx_
      have xy_ : Box w4 (w.heap.size + 1 + 1) #[(.slice yA0 yn0 yc0), (.slice yA1 yn1 yc1), (.slice yA2 yn2 yc2), (.slice yA3 yn3 yc3), (.slice yA4 yn4 yc4), (.slice yA5 yn5 yc5)] 68 := (Box.b xy b4)
      clear xy; have xy := xy_; clear xy_
      have xo_ : Box w4 (w1.heap.size) #[.int .i64 (soD kI0 kL1 xL0 xL1 xL2 xL3 yL0 yL1 yL2 yL3 rI0), .int .i64 (soE kI0 kL1 xL0 xL1 xL2 xL3 yL0 yL1 yL2 yL3 rI0)] 73 := (Box.b xo b4)
      clear xo; have xo := xo_; clear xo_
      refine ⟨_, rfl, ⟨xk.two.1, xk.two.2.1, xx.six.1, xx.six.2.1, xx.six.2.2.1, xx.six.2.2.2.1, xx.six.2.2.2.2.1, xx.six.2.2.2.2.2.1, xy.six.1, xy.six.2.1, xy.six.2.2.1, xy.six.2.2.2.1, xy.six.2.2.2.2.1, xy.six.2.2.2.2.2.1⟩, fun hS => ?_⟩
      (try simp only [Act.put, layA, layB, layC])
      refine on 11 ?_
      refine callH (by go_simp; (first | done | with_reducible rfl | exact ⟨rfl, rfl⟩)) ?_
      go_at_call 109
      refine (ivalueIn_L kI0 (RdL.b kH) kL1n (RdL.b (ls := [((.slice yA4 yn4 yc4), .ints yL4), ((.slice yA5 yn5 yc5), .ints yL5)]) (RdL.sub yH (by simp))) yL4n yL5n).mono ?_
      rintro e w5 ⟨rfl, b5⟩
      clear hS
      have z5 := Below.size b5
      (try simp only [World.size_alloc, World.size_setCell, size_drew] at z5)
      have B5 : Below w.heap.size w w5 := Below.t b5
      have xk_ : Box w5 (w.heap.size) #[.int .i64 kI0, (.slice kA1 kn1 kc1)] 33 := (Box.b xk b5)
      clear xk; have xk := xk_; clear xk_
      have xx_ : Box w5 (w.heap.size + 1) #[(.slice xA0 xn0 xc0), (.slice xA1 xn1 xc1), (.slice xA2 xn2 xc2), (.slice xA3 xn3 xc3), (.slice xA4 xn4 xc4), (.slice xA5 xn5 xc5)] 68 := (Box.b xx b5)
      clear xx; have xx := xx_; clear xx_
      have xy_ : Box w5 (w.heap.size + 1 + 1) #[(.slice yA0 yn0 yc0), (.slice yA1 yn1 yc1), (.slice yA2 yn2 yc2), (.slice yA3 yn3 yc3), (.slice yA4 yn4 yc4), (.slice yA5 yn5 yc5)] 68 := (Box.b xy b5)
      clear xy; have xy := xy_; clear xy_
      have xo_ : Box w5 (w1.heap.size) #[.int .i64 (soD kI0 kL1 xL0 xL1 xL2 xL3 yL0 yL1 yL2 yL3 rI0), .int .i64 (soE kI0 kL1 xL0 xL1 xL2 xL3 yL0 yL1 yL2 yL3 rI0)] 73 := (Box.b xo b5)
      clear xo; have xo := xo_; clear xo_
      refine ⟨_, rfl, ⟨xk.two.1, xk.two.2.1, xx.six.1, xx.six.2.1, xx.six.2.2.1, xx.six.2.2.2.1, xx.six.2.2.2.2.1, xx.six.2.2.2.2.2.1, xy.six.1, xy.six.2.1, xy.six.2.2.1, xy.six.2.2.2.1, xy.six.2.2.2.2.1, xy.six.2.2.2.2.2.1⟩, fun hS => ?_⟩
      (try simp only [Act.put, layA, layB, layC])
      refine on 12 ?_
      refine callH (by go_simp; (first | done | with_reducible rfl | exact ⟨rfl, rfl⟩)) ?_
      go_at_call 122
      refine (iFSub_any _ _ _ _).mono ?_
      rintro e w6 ⟨rfl, b6⟩
      clear hS
      have z6 := Below.size b6
      (try simp only [World.size_alloc, World.size_setCell, size_drew] at z6)
      have B6 : Below w.heap.size w w6 := Below.t b6
      have xk_ : Box w6 (w.heap.size) #[.int .i64 kI0, (.slice kA1 kn1 kc1)] 33 := (Box.b xk b6)
      clear xk; have xk := xk_; clear xk_
      have xx_ : Box w6 (w.heap.size + 1) #[(.slice xA0 xn0 xc0), (.slice xA1 xn1 xc1), (.slice xA2 xn2 xc2), (.slice xA3 xn3 xc3), (.slice xA4 xn4 xc4), (.slice xA5 xn5 xc5)] 68 := (Box.b xx b6)
      clear xx; have xx := xx_; clear xx_
      have xy_ : Box w6 (w.heap.size + 1 + 1) #[(.slice yA0 yn0 yc0), (.slice yA1 yn1 yc1), (.slice yA2 yn2 yc2), (.slice yA3 yn3 yc3), (.slice yA4 yn4 yc4), (.slice yA5 yn5 yc5)] 68 := (Box.b xy b6)
      clear xy; have xy := xy_; clear xy_
      have xo_ : Box w6 (w1.heap.size) #[.int .i64 (soD kI0 kL1 xL0 xL1 xL2 xL3 yL0 yL1 yL2 yL3 rI0), .int .i64 (soE kI0 kL1 xL0 xL1 xL2 xL3 yL0 yL1 yL2 yL3 rI0)] 73 := (Box.b xo b6)
      clear xo; have xo := xo_; clear xo_
      refine ⟨_, rfl, ⟨xk.two.1, xk.two.2.1, xx.six.1, xx.six.2.1, xx.six.2.2.1, xx.six.2.2.2.1, xx.six.2.2.2.2.1, xx.six.2.2.2.2.2.1, xy.six.1, xy.six.2.1, xy.six.2.2.1, xy.six.2.2.2.1, xy.six.2.2.2.2.1, xy.six.2.2.2.2.2.1⟩, fun hS => ?_⟩
      (try simp only [Act.put, layA, layB, layC])
      (refine tk 13 hS ?_; (try simp only [Act.put, layA, layB, layC]))
      clear hS
      refine wpAnyH_done (by kernel_rfl) ?_ _
      obtain ⟨cxk_0, cxk_1, fxk_0, fxk_1⟩ := xk.two
      have l_xk_0 : w.heap.size < w6.heap.size := by omega
      obtain ⟨cxx_0, cxx_1, cxx_2, cxx_3, cxx_4, cxx_5, fxx_0, fxx_1, fxx_2, fxx_3, fxx_4, fxx_5⟩ := xx.six
      have l_xx_0 : w.heap.size + 1 < w6.heap.size := by omega
      obtain ⟨cxy_0, cxy_1, cxy_2, cxy_3, cxy_4, cxy_5, fxy_0, fxy_1, fxy_2, fxy_3, fxy_4, fxy_5⟩ := xy.six
      have l_xy_0 : w.heap.size + 1 + 1 < w6.heap.size := by omega
      obtain ⟨cxo_0, cxo_1, fxo_0, fxo_1⟩ := xo.two
      have l_xo_0 : w1.heap.size < w6.heap.size := by omega
      go_wp2_with fail
      clear cxk_0 cxk_1 fxk_0 fxk_1 l_xk_0 cxx_0 cxx_1 cxx_2 cxx_3 cxx_4 cxx_5 fxx_0 fxx_1 fxx_2 fxx_3 fxx_4 fxx_5 l_xx_0 cxy_0 cxy_1 cxy_2 cxy_3 cxy_4 cxy_5 fxy_0 fxy_1 fxy_2 fxy_3 fxy_4 fxy_5 l_xy_0 cxo_0 cxo_1 fxo_0 fxo_1 l_xo_0
      refine wp_region_held_drew (S := fun W => W.cell? ⟨w.heap.size, 0, none⟩ = some (.int .i64 kI0) ∧ W.cell? ⟨w.heap.size, 1, none⟩ = some ((.slice kA1 kn1 kc1)) ∧ W.cell? ⟨w.heap.size + 1, 0, none⟩ = some ((.slice xA0 xn0 xc0)) ∧ W.cell? ⟨w.heap.size + 1, 1, none⟩ = some ((.slice xA1 xn1 xc1)) ∧ W.cell? ⟨w.heap.size + 1, 2, none⟩ = some ((.slice xA2 xn2 xc2)) ∧ W.cell? ⟨w.heap.size + 1, 3, none⟩ = some ((.slice xA3 xn3 xc3)) ∧ W.cell? ⟨w.heap.size + 1, 4, none⟩ = some ((.slice xA4 xn4 xc4)) ∧ W.cell? ⟨w.heap.size + 1, 5, none⟩ = some ((.slice xA5 xn5 xc5)) ∧ W.cell? ⟨w.heap.size + 1 + 1, 0, none⟩ = some ((.slice yA0 yn0 yc0)) ∧ W.cell? ⟨w.heap.size + 1 + 1, 1, none⟩ = some ((.slice yA1 yn1 yc1)) ∧ W.cell? ⟨w.heap.size + 1 + 1, 2, none⟩ = some ((.slice yA2 yn2 yc2)) ∧ W.cell? ⟨w.heap.size + 1 + 1, 3, none⟩ = some ((.slice yA3 yn3 yc3)) ∧ W.cell? ⟨w.heap.size + 1 + 1, 4, none⟩ = some ((.slice yA4 yn4 yc4)) ∧ W.cell? ⟨w.heap.size + 1 + 1, 5, none⟩ = some ((.slice yA5 yn5 yc5)) ∧ W.cell? ⟨w1.heap.size, 0, none⟩ = some (.int .i64 (soD kI0 kL1 xL0 xL1 xL2 xL3 yL0 yL1 yL2 yL3 rI0)) ∧ W.cell? ⟨w1.heap.size, 1, none⟩ = some (.int .i64 (soE kI0 kL1 xL0 xL1 xL2 xL3 yL0 yL1 yL2 yL3 rI0))) (by kernel_rfl) ⟨xk.drew.two.1, xk.drew.two.2.1, xx.drew.six.1, xx.drew.six.2.1, xx.drew.six.2.2.1, xx.drew.six.2.2.2.1, xx.drew.six.2.2.2.2.1, xx.drew.six.2.2.2.2.2.1, xy.drew.six.1, xy.drew.six.2.1, xy.drew.six.2.2.1, xy.drew.six.2.2.2.1, xy.drew.six.2.2.2.2.1, xy.drew.six.2.2.2.2.2.1, xo.drew.two.1, xo.drew.two.2.1⟩ (fun hS => ?_)
      (refine tk 0 hS ?_; (try simp only [Act.put, layA, layB, layC]))
      (refine tk 1 hS ?_; (try simp only [Act.put, layA, layB, layC]))
      (refine tk 2 hS ?_; (try simp only [Act.put, layA, layB, layC]))
      (refine tk 3 hS ?_; (try simp only [Act.put, layA, layB, layC]))
      (refine tk 4 hS ?_; (try simp only [Act.put, layA, layB, layC]))
      (refine tk 5 hS ?_; (try simp only [Act.put, layA, layB, layC]))
      (refine tk 6 hS ?_; (try simp only [Act.put, layA, layB, layC]))
      (refine tk 7 hS ?_; (try simp only [Act.put, layA, layB, layC]))
      refine on 8 ?_
      refine callH (by go_simp; (first | done | with_reducible rfl | exact ⟨rfl, rfl⟩)) ?_
      go_at_call 109
      refine (ivalueIn_L kI0 (RdL.b kH) kL1n (RdL.b (ls := [((.slice yA0 yn0 yc0), .ints yL0), ((.slice yA1 yn1 yc1), .ints yL1)]) (RdL.sub yH (by simp))) yL0n yL1n).mono ?_
      rintro e w7 ⟨rfl, b7⟩
      clear hS
      have z7 := Below.size b7
      (try simp only [World.size_alloc, World.size_setCell, size_drew] at z7)
      have B7 : Below w.heap.size w w7 := Below.t b7
      have xk_ : Box w7 (w.heap.size) #[.int .i64 kI0, (.slice kA1 kn1 kc1)] 33 := (Box.b xk.drew b7)
      clear xk; have xk := xk_; clear xk_
      have xx_ : Box w7 (w.heap.size + 1) #[(.slice xA0 xn0 xc0), (.slice xA1 xn1 xc1), (.slice xA2 xn2 xc2), (.slice xA3 xn3 xc3), (.slice xA4 xn4 xc4), (.slice xA5 xn5 xc5)] 68 := (Box.b xx.drew b7)
      clear xx; have xx := xx_; clear xx_
      have xy_ : Box w7 (w.heap.size + 1 + 1) #[(.slice yA0 yn0 yc0), (.slice yA1 yn1 yc1), (.slice yA2 yn2 yc2), (.slice yA3 yn3 yc3), (.slice yA4 yn4 yc4), (.slice yA5 yn5 yc5)] 68 := (Box.b xy.drew b7)
      clear xy; have xy := xy_; clear xy_
      have xo_ : Box w7 (w1.heap.size) #[.int .i64 (soD kI0 kL1 xL0 xL1 xL2 xL3 yL0 yL1 yL2 yL3 rI0), .int .i64 (soE kI0 kL1 xL0 xL1 xL2 xL3 yL0 yL1 yL2 yL3 rI0)] 73 := (Box.b xo.drew b7)
      clear xo; have xo := xo_; clear xo_
      refine ⟨_, rfl, ⟨xk.two.1, xk.two.2.1, xx.six.1, xx.six.2.1, xx.six.2.2.1, xx.six.2.2.2.1, xx.six.2.2.2.2.1, xx.six.2.2.2.2.2.1, xy.six.1, xy.six.2.1, xy.six.2.2.1, xy.six.2.2.2.1, xy.six.2.2.2.2.1, xy.six.2.2.2.2.2.1, xo.two.1, xo.two.2.1⟩, fun hS => ?_⟩
      (try simp only [Act.put, layA, layB, layC])
      refine on 9 ?_
      refine callH (by go_simp; (first | done | with_reducible rfl | exact ⟨rfl, rfl⟩)) ?_
      go_at_call 101
      refine (iFMul_any _ _ _ _).mono ?_
      rintro e w8 ⟨rfl, b8⟩
      clear hS
      have z8 := Below.size b8
      (try simp only [World.size_alloc, World.size_setCell, size_drew] at z8)
      have B8 : Below w.heap.size w w8 := Below.t b8
      have xk_ : Box w8 (w.heap.size) #[.int .i64 kI0, (.slice kA1 kn1 kc1)] 33 := (Box.b xk b8)
      clear xk; have xk := xk_; clear xk_
      have xx_ : Box w8 (w.heap.size + 1) #[(.slice xA0 xn0 xc0), (.slice xA1 xn1 xc1), (.slice xA2 xn2 xc2), (.slice xA3 xn3 xc3), (.slice xA4 xn4 xc4), (.slice xA5 xn5 xc5)] 68 := (Box.b xx b8)
      clear xx; have xx := xx_; clear xx_
      have xy_ : Box w8 (w.heap.size + 1 + 1) #[(.slice yA0 yn0 yc0), (.slice yA1 yn1 yc1), (.slice yA2 yn2 yc2), (.slice yA3 yn3 yc3), (.slice yA4 yn4 yc4), (.slice yA5 yn5 yc5)] 68 := (Box.b xy b8)
      clear xy; have xy := xy_; clear xy_
      have xo_ : Box w8 (w1.heap.size) #[.int .i64 (soD kI0 kL1 xL0 xL1 xL2 xL3 yL0 yL1 yL2 yL3 rI0), .int .i64 (soE kI0 kL1 xL0 xL1 xL2 xL3 yL0 yL1 yL2 yL3 rI0)] 73 := (Box.b xo b8)
      clear xo; have xo := xo_; clear xo_
      refine ⟨_, rfl, ⟨xk.two.1, xk.two.2.1, xx.six.1, xx.six.2.1, xx.six.2.2.1, xx.six.2.2.2.1, xx.six.2.2.2.2.1, xx.six.2.2.2.2.2.1, xy.six.1, xy.six.2.1, xy.six.2.2.1, xy.six.2.2.2.1, xy.six.2.2.2.2.1, xy.six.2.2.2.2.2.1, xo.two.1, xo.two.2.1⟩, fun hS => ?_⟩
      (try simp only [Act.put, layA, layB, layC])
      refine on 10 ?_
      refine callH (by go_simp; (first | done | with_reducible rfl | exact ⟨rfl, rfl⟩)) ?_
      go_at_call 122
      refine (iFSub_any _ _ _ _).mono ?_
      rintro e w9 ⟨rfl, b9⟩
      clear hS
      have z9 := Below.size b9
      (try simp only [World.size_alloc, World.size_setCell, size_drew] at z9)
      have B9 : Below w.heap.size w w9 := Below.t b9
      have xk_ : Box w9 (w.heap.size) #[.int .i64 kI0, (.slice kA1 kn1 kc1)] 33 := (Box.b xk b9)
      clear xk; have xk := xk_; clear xk_
      have xx_ : Box w9 (w.heap.size + 1) #[(.slice xA0 xn0 xc0), (.slice xA1 xn1 xc1), (.slice xA2 xn2 xc2), (.slice xA3 xn3 xc3), (.slice xA4 xn4 xc4), (.slice xA5 xn5 xc5)] 68 := (Box.b xx b9)
      clear xx; have xx := xx_; clear xx_
      have xy_ : Box w9 (w.heap.size + 1 + 1) #[(.slice yA0 yn0 yc0), (.slice yA1 yn1 yc1), (.slice yA2 yn2 yc2), (.slice yA3 yn3 yc3), (.slice yA4 yn4 yc4), (.slice yA5 yn5 yc5)] 68 := (Box.b xy b9)
      clear xy; have xy := xy_; clear xy_
      have xo_ : Box w9 (w1.heap.size) #[.int .i64 (soD kI0 kL1 xL0 xL1 xL2 xL3 yL0 yL1 yL2 yL3 rI0), .int .i64 (soE kI0 kL1 xL0 xL1 xL2 xL3 yL0 yL1 yL2 yL3 rI0)] 73 := (Box.b xo b9)
      clear xo; have xo := xo_; clear xo_
      refine ⟨_, rfl, ⟨xk.two.1, xk.two.2.1, xx.six.1, xx.six.2.1, xx.six.2.2.1, xx.six.2.2.2.1, xx.six.2.2.2.2.1, xx.six.2.2.2.2.2.1, xy.six.1, xy.six.2.1, xy.six.2.2.1, xy.six.2.2.2.1, xy.six.2.2.2.2.1, xy.six.2.2.2.2.2.1, xo.two.1, xo.two.2.1⟩, fun hS => ?_⟩
      (try simp only [Act.put, layA, layB, layC])
      (refine tk 11 hS ?_; (try simp only [Act.put, layA, layB, layC]))
      clear hS
      refine wpAnyH_done (by kernel_rfl) ?_ _
      obtain ⟨cxk_0, cxk_1, fxk_0, fxk_1⟩ := xk.two
      have l_xk_0 : w.heap.size < w9.heap.size := by omega
      obtain ⟨cxx_0, cxx_1, cxx_2, cxx_3, cxx_4, cxx_5, fxx_0, fxx_1, fxx_2, fxx_3, fxx_4, fxx_5⟩ := xx.six
      have l_xx_0 : w.heap.size + 1 < w9.heap.size := by omega
      obtain ⟨cxy_0, cxy_1, cxy_2, cxy_3, cxy_4, cxy_5, fxy_0, fxy_1, fxy_2, fxy_3, fxy_4, fxy_5⟩ := xy.six
      have l_xy_0 : w.heap.size + 1 + 1 < w9.heap.size := by omega
      obtain ⟨cxo_0, cxo_1, fxo_0, fxo_1⟩ := xo.two
      have l_xo_0 : w1.heap.size < w9.heap.size := by omega
      go_wp2_with fail
      clear cxk_0 cxk_1 fxk_0 fxk_1 l_xk_0 cxx_0 cxx_1 cxx_2 cxx_3 cxx_4 cxx_5 fxx_0 fxx_1 fxx_2 fxx_3 fxx_4 fxx_5 l_xx_0 cxy_0 cxy_1 cxy_2 cxy_3 cxy_4 cxy_5 fxy_0 fxy_1 fxy_2 fxy_3 fxy_4 fxy_5 l_xy_0 cxo_0 cxo_1 fxo_0 fxo_1 l_xo_0
      refine wp_region_held_drew (S := fun W => W.cell? ⟨w.heap.size, 0, none⟩ = some (.int .i64 kI0) ∧ W.cell? ⟨w.heap.size, 1, none⟩ = some ((.slice kA1 kn1 kc1)) ∧ W.cell? ⟨w.heap.size + 1, 0, none⟩ = some ((.slice xA0 xn0 xc0)) ∧ W.cell? ⟨w.heap.size + 1, 1, none⟩ = some ((.slice xA1 xn1 xc1)) ∧ W.cell? ⟨w.heap.size + 1, 2, none⟩ = some ((.slice xA2 xn2 xc2)) ∧ W.cell? ⟨w.heap.size + 1, 3, none⟩ = some ((.slice xA3 xn3 xc3)) ∧ W.cell? ⟨w.heap.size + 1, 4, none⟩ = some ((.slice xA4 xn4 xc4)) ∧ W.cell? ⟨w.heap.size + 1, 5, none⟩ = some ((.slice xA5 xn5 xc5)) ∧ W.cell? ⟨w.heap.size + 1 + 1, 0, none⟩ = some ((.slice yA0 yn0 yc0)) ∧ W.cell? ⟨w.heap.size + 1 + 1, 1, none⟩ = some ((.slice yA1 yn1 yc1)) ∧ W.cell? ⟨w.heap.size + 1 + 1, 2, none⟩ = some ((.slice yA2 yn2 yc2)) ∧ W.cell? ⟨w.heap.size + 1 + 1, 3, none⟩ = some ((.slice yA3 yn3 yc3)) ∧ W.cell? ⟨w.heap.size + 1 + 1, 4, none⟩ = some ((.slice yA4 yn4 yc4)) ∧ W.cell? ⟨w.heap.size + 1 + 1, 5, none⟩ = some ((.slice yA5 yn5 yc5)) ∧ W.cell? ⟨w1.heap.size, 0, none⟩ = some (.int .i64 (soD kI0 kL1 xL0 xL1 xL2 xL3 yL0 yL1 yL2 yL3 rI0)) ∧ W.cell? ⟨w1.heap.size, 1, none⟩ = some (.int .i64 (soE kI0 kL1 xL0 xL1 xL2 xL3 yL0 yL1 yL2 yL3 rI0))) (by kernel_rfl) ⟨xk.drew.two.1, xk.drew.two.2.1, xx.drew.six.1, xx.drew.six.2.1, xx.drew.six.2.2.1, xx.drew.six.2.2.2.1, xx.drew.six.2.2.2.2.1, xx.drew.six.2.2.2.2.2.1, xy.drew.six.1, xy.drew.six.2.1, xy.drew.six.2.2.1, xy.drew.six.2.2.2.1, xy.drew.six.2.2.2.2.1, xy.drew.six.2.2.2.2.2.1, xo.drew.two.1, xo.drew.two.2.1⟩ (fun hS => ?_)
      (refine tk 0 hS ?_; (try simp only [Act.put, layA, layB, layC]))
      (refine tk 1 hS ?_; (try simp only [Act.put, layA, layB, layC]))
      (refine tk 2 hS ?_; (try simp only [Act.put, layA, layB, layC]))
      (refine tk 3 hS ?_; (try simp only [Act.put, layA, layB, layC]))
      (refine tk 4 hS ?_; (try simp only [Act.put, layA, layB, layC]))
      (refine tk 5 hS ?_; (try simp only [Act.put, layA, layB, layC]))
      (refine tk 6 hS ?_; (try simp only [Act.put, layA, layB, layC]))
      (refine tk 7 hS ?_; (try simp only [Act.put, layA, layB, layC]))
      refine on 8 ?_
      refine callH (by go_simp; (first | done | with_reducible rfl | exact ⟨rfl, rfl⟩)) ?_
      go_at_call 109
      refine (ivalueIn_L kI0 (RdL.b kH) kL1n (RdL.b (ls := [((.slice yA2 yn2 yc2), .ints yL2), ((.slice yA3 yn3 yc3), .ints yL3)]) (RdL.sub yH (by simp))) yL2n yL3n).mono ?_
      rintro e w10 ⟨rfl, b10⟩
      clear hS
      have z10 := Below.size b10
      (try simp only [World.size_alloc, World.size_setCell, size_drew] at z10)
      have B10 : Below w.heap.size w w10 := Below.t b10
      have xk_ : Box w10 (w.heap.size) #[.int .i64 kI0, (.slice kA1 kn1 kc1)] 33 := (Box.b xk.drew b10)
      clear xk; have xk := xk_; clear xk_
      have xx_ : Box w10 (w.heap.size + 1) #[(.slice xA0 xn0 xc0), (.slice xA1 xn1 xc1), (.slice xA2 xn2 xc2), (.slice xA3 xn3 xc3), (.slice xA4 xn4 xc4), (.slice xA5 xn5 xc5)] 68 := (Box.b xx.drew b10)
      clear xx; have xx := xx_; clear xx_
      have xy_ : Box w10 (w.heap.size + 1 + 1) #[(.slice yA0 yn0 yc0), (.slice yA1 yn1 yc1), (.slice yA2 yn2 yc2), (.slice yA3 yn3 yc3), (.slice yA4 yn4 yc4), (.slice yA5 yn5 yc5)] 68 := (Box.b xy.drew b10)
      clear xy; have xy := xy_; clear xy_
      have xo_ : Box w10 (w1.heap.size) #[.int .i64 (soD kI0 kL1 xL0 xL1 xL2 xL3 yL0 yL1 yL2 yL3 rI0), .int .i64 (soE kI0 kL1 xL0 xL1 xL2 xL3 yL0 yL1 yL2 yL3 rI0)] 73 := (Box.b xo.drew b10)
      clear xo; have xo := xo_; clear xo_
      refine ⟨_, rfl, ⟨xk.two.1, xk.two.2.1, xx.six.1, xx.six.2.1, xx.six.2.2.1, xx.six.2.2.2.1, xx.six.2.2.2.2.1, xx.six.2.2.2.2.2.1, xy.six.1, xy.six.2.1, xy.six.2.2.1, xy.six.2.2.2.1, xy.six.2.2.2.2.1, xy.six.2.2.2.2.2.1, xo.two.1, xo.two.2.1⟩, fun hS => ?_⟩
      (try simp only [Act.put, layA, layB, layC])
      refine on 9 ?_
      refine callH (by go_simp; (first | done | with_reducible rfl | exact ⟨rfl, rfl⟩)) ?_
      go_at_call 101
      refine (iFMul_any _ _ _ _).mono ?_
      rintro e w11 ⟨rfl, b11⟩
      clear hS
      have z11 := Below.size b11
      (try simp only [World.size_alloc, World.size_setCell, size_drew] at z11)
      have B11 : Below w.heap.size w w11 := Below.t b11
      have xk_ : Box w11 (w.heap.size) #[.int .i64 kI0, (.slice kA1 kn1 kc1)] 33 := (Box.b xk b11)
      clear xk; have xk := xk_; clear xk_
      have xx_ : Box w11 (w.heap.size + 1) #[(.slice xA0 xn0 xc0), (.slice xA1 xn1 xc1), (.slice xA2 xn2 xc2), (.slice xA3 xn3 xc3), (.slice xA4 xn4 xc4), (.slice xA5 xn5 xc5)] 68 := (Box.b xx b11)
      clear xx; have xx := xx_; clear xx_
      have xy_ : Box w11 (w.heap.size + 1 + 1) #[(.slice yA0 yn0 yc0), (.slice yA1 yn1 yc1), (.slice yA2 yn2 yc2), (.slice yA3 yn3 yc3), (.slice yA4 yn4 yc4), (.slice yA5 yn5 yc5)] 68 := (Box.b xy b11)
      clear xy; have xy := xy_; clear xy_
      have xo_ : Box w11 (w1.heap.size) #[.int .i64 (soD kI0 kL1 xL0 xL1 xL2 xL3 yL0 yL1 yL2 yL3 rI0), .int .i64 (soE kI0 kL1 xL0 xL1 xL2 xL3 yL0 yL1 yL2 yL3 rI0)] 73 := (Box.b xo b11)
      clear xo; have xo := xo_; clear xo_
      refine ⟨_, rfl, ⟨xk.two.1, xk.two.2.1, xx.six.1, xx.six.2.1, xx.six.2.2.1, xx.six.2.2.2.1, xx.six.2.2.2.2.1, xx.six.2.2.2.2.2.1, xy.six.1, xy.six.2.1, xy.six.2.2.1, xy.six.2.2.2.1, xy.six.2.2.2.2.1, xy.six.2.2.2.2.2.1, xo.two.1, xo.two.2.1⟩, fun hS => ?_⟩
      (try simp only [Act.put, layA, layB, layC])
      refine on 10 ?_
      refine callH (by go_simp; (first | done | with_reducible rfl | exact ⟨rfl, rfl⟩)) ?_
      go_at_call 122
      refine (iFSub_any _ _ _ _).mono ?_
      rintro e w12 ⟨rfl, b12⟩
      clear hS
      have z12 := Below.size b12
      (try simp only [World.size_alloc, World.size_setCell, size_drew] at z12)
      have B12 : Below w.heap.size w w12 := Below.t b12
      have xk_ : Box w12 (w.heap.size) #[.int .i64 kI0, (.slice kA1 kn1 kc1)] 33 := (Box.b xk b12)
      clear xk; have xk := xk_; clear xk_
      have xx_ : Box w12 (w.heap.size + 1) #[(.slice xA0 xn0 xc0), (.slice xA1 xn1 xc1), (.slice xA2 xn2 xc2), (.slice xA3 xn3 xc3), (.slice xA4 xn4 xc4), (.slice xA5 xn5 xc5)] 68 := (Box.b xx b12)
      clear xx; have xx := xx_; clear xx_
      have xy_ : Box w12 (w.heap.size + 1 + 1) #[(.slice yA0 yn0 yc0), (.slice yA1 yn1 yc1), (.slice yA2 yn2 yc2), (.slice yA3 yn3 yc3), (.slice yA4 yn4 yc4), (.slice yA5 yn5 yc5)] 68 := (Box.b xy b12)
      clear xy; have xy := xy_; clear xy_
      have xo_ : Box w12 (w1.heap.size) #[.int .i64 (soD kI0 kL1 xL0 xL1 xL2 xL3 yL0 yL1 yL2 yL3 rI0), .int .i64 (soE kI0 kL1 xL0 xL1 xL2 xL3 yL0 yL1 yL2 yL3 rI0)] 73 := (Box.b xo b12)
      clear xo; have xo := xo_; clear xo_
      refine ⟨_, rfl, ⟨xk.two.1, xk.two.2.1, xx.six.1, xx.six.2.1, xx.six.2.2.1, xx.six.2.2.2.1, xx.six.2.2.2.2.1, xx.six.2.2.2.2.2.1, xy.six.1, xy.six.2.1, xy.six.2.2.1, xy.six.2.2.2.1, xy.six.2.2.2.2.1, xy.six.2.2.2.2.2.1, xo.two.1, xo.two.2.1⟩, fun hS => ?_⟩
      (try simp only [Act.put, layA, layB, layC])
      (refine tk 11 hS ?_; (try simp only [Act.put, layA, layB, layC]))
      clear hS
      refine wpAnyH_done (by kernel_rfl) ?_ _
      obtain ⟨cxo_0, cxo_1, fxo_0, fxo_1⟩ := xo.two
      have l_xo_0 : w1.heap.size < w12.heap.size := by omega
      go_wp2_with fail
      refine (iFMul_any _ _ _ _).mono ?_
      rintro e w13 ⟨rfl, b13⟩
      clear cxo_0 cxo_1 fxo_0 fxo_1 l_xo_0
      have z13 := b13.size
      try simp only [World.size_alloc, World.size_setCell, size_drew] at z13
      have B13 : Below w.heap.size w w13 := Below.t b13
      have xk_ : Box w13 (w.heap.size) #[.int .i64 kI0, (.slice kA1 kn1 kc1)] 33 := xk.below b13 (by first | omega | (simp [size_drew]; done) | (simp [size_drew]; omega))
      clear xk; have xk := xk_; clear xk_
      have xx_ : Box w13 (w.heap.size + 1) #[(.slice xA0 xn0 xc0), (.slice xA1 xn1 xc1), (.slice xA2 xn2 xc2), (.slice xA3 xn3 xc3), (.slice xA4 xn4 xc4), (.slice xA5 xn5 xc5)] 68 := xx.below b13 (by first | omega | (simp [size_drew]; done) | (simp [size_drew]; omega))
      clear xx; have xx := xx_; clear xx_
      have xy_ : Box w13 (w.heap.size + 1 + 1) #[(.slice yA0 yn0 yc0), (.slice yA1 yn1 yc1), (.slice yA2 yn2 yc2), (.slice yA3 yn3 yc3), (.slice yA4 yn4 yc4), (.slice yA5 yn5 yc5)] 68 := xy.below b13 (by first | omega | (simp [size_drew]; done) | (simp [size_drew]; omega))
      clear xy; have xy := xy_; clear xy_
      have xo_ : Box w13 (w1.heap.size) #[.int .i64 (soD kI0 kL1 xL0 xL1 xL2 xL3 yL0 yL1 yL2 yL3 rI0), .int .i64 (soE kI0 kL1 xL0 xL1 xL2 xL3 yL0 yL1 yL2 yL3 rI0)] 73 := xo.below b13 (by first | omega | (simp [size_drew]; done) | (simp [size_drew]; omega))
      clear xo; have xo := xo_; clear xo_
      go_wp2_with fail
      refine (iFSub_any _ _ _ _).mono ?_
      rintro e w14 ⟨rfl, b14⟩
      have z14 := b14.size
      try simp only [World.size_alloc, World.size_setCell, size_drew] at z14
      have B14 : Below w.heap.size w w14 := Below.t b14
      have xk_ : Box w14 (w.heap.size) #[.int .i64 kI0, (.slice kA1 kn1 kc1)] 33 := xk.below b14 (by first | omega | (simp [size_drew]; done) | (simp [size_drew]; omega))
      clear xk; have xk := xk_; clear xk_
      have xx_ : Box w14 (w.heap.size + 1) #[(.slice xA0 xn0 xc0), (.slice xA1 xn1 xc1), (.slice xA2 xn2 xc2), (.slice xA3 xn3 xc3), (.slice xA4 xn4 xc4), (.slice xA5 xn5 xc5)] 68 := xx.below b14 (by first | omega | (simp [size_drew]; done) | (simp [size_drew]; omega))
      clear xx; have xx := xx_; clear xx_
      have xy_ : Box w14 (w.heap.size + 1 + 1) #[(.slice yA0 yn0 yc0), (.slice yA1 yn1 yc1), (.slice yA2 yn2 yc2), (.slice yA3 yn3 yc3), (.slice yA4 yn4 yc4), (.slice yA5 yn5 yc5)] 68 := xy.below b14 (by first | omega | (simp [size_drew]; done) | (simp [size_drew]; omega))
      clear xy; have xy := xy_; clear xy_
      have xo_ : Box w14 (w1.heap.size) #[.int .i64 (soD kI0 kL1 xL0 xL1 xL2 xL3 yL0 yL1 yL2 yL3 rI0), .int .i64 (soE kI0 kL1 xL0 xL1 xL2 xL3 yL0 yL1 yL2 yL3 rI0)] 73 := xo.below b14 (by first | omega | (simp [size_drew]; done) | (simp [size_drew]; omega))
      clear xo; have xo := xo_; clear xo_
      go_wp2
      go_ret
      exact ⟨ret_bool (by rw [HE.out, k1, (Bool.and_eq_true_iff.1 k2).1, (Bool.and_eq_true_iff.1 k2).2, HN k1]; simp), by repeat (with_reducible (first | assumption | exact Below.refl _ _ | refine Below.alloc ?_ (by first | omega | (simp; done) | (simp; omega)) _ | refine Below.setCell ?_ (by first | omega | (simp; done) | (simp; omega)) _ | refine Below.drew ?_ | refine below_drewN ?_ _))⟩
end Go.Proofs.Ytllnnbmgdbinnaa

/- Contract of TripleUse. Printed by mac2.py. -/
import Derived.Test.YtllnnbmgdbinnaaMac3
import Derived.Test.YtllnnbmgdbinnaaTri0
namespace Go.Proofs.Ytllnnbmgdbinnaa
set_option linter.unusedSimpArgs false
set_option linter.unusedVariables false
open Go.RowKit
section
variable {p d e : Int} {al sa ma sb mb sc mc : List Int}
theorem uS_yes (h : uOk p al sa ma sb mb sc mc d e = true) : uS p al sa ma sb mb sc mc d e = aCoS p al (u2S p al sa ma sb mb sc mc d e) (u2M p al sa ma sb mb sc mc d e) (fmul p d e) := by simp [uS, h]
theorem uM_yes (h : uOk p al sa ma sb mb sc mc d e = true) : uM p al sa ma sb mb sc mc d e = aCoM p al (u2S p al sa ma sb mb sc mc d e) (u2M p al sa ma sb mb sc mc d e) (fmul p d e) := by simp [uM, h]
theorem uS_no (h : uOk p al sa ma sb mb sc mc d e = false) : uS p al sa ma sb mb sc mc d e = [] := by simp [uS, h]
theorem uM_no (h : uOk p al sa ma sb mb sc mc d e = false) : uM p al sa ma sb mb sc mc d e = [] := by simp [uM, h]
end
set_option maxRecDepth 100000 in
set_option maxHeartbeats 2000000 in
theorem sTripleUse_L {kA1 : Option Addr} {kn1 kc1 : Nat} {kL1 : List Int} {xA0 : Option Addr} {xn0 xc0 : Nat} {xL0 : List Int} {xA1 : Option Addr} {xn1 xc1 : Nat} {xL1 : List Int} {xA2 : Option Addr} {xn2 xc2 : Nat} {xL2 : List Int} {xA3 : Option Addr} {xn3 xc3 : Nat} {xL3 : List Int} {xA4 : Option Addr} {xn4 xc4 : Nat} {xL4 : List Int} {xA5 : Option Addr} {xn5 xc5 : Nat} {xL5 : List Int} {w : World} (kI0 : Int) (kH : RdL w [((.slice kA1 kn1 kc1), .ints kL1)]) (kL1n : kL1.length ≤ 1048576) (xH : RdL w [((.slice xA0 xn0 xc0), .ints xL0), ((.slice xA1 xn1 xc1), .ints xL1), ((.slice xA2 xn2 xc2), .ints xL2), ((.slice xA3 xn3 xc3), .ints xL3), ((.slice xA4 xn4 xc4), .ints xL4), ((.slice xA5 xn5 xc5), .ints xL5)]) (xL0n : xL0.length ≤ 1048576) (xL1n : xL1.length ≤ 1048576) (xL2n : xL2.length ≤ 1048576) (xL3n : xL3.length ≤ 1048576) (xL4n : xL4.length ≤ 1048576) (xL5n : xL5.length ≤ 1048576) (oI0 : Int) (oI1 : Int) :
    Calls Try.prog 80 #[.agg #[.int .i64 kI0, (.slice kA1 kn1 kc1)], .agg #[(.slice xA0 xn0 xc0), (.slice xA1 xn1 xc1), (.slice xA2 xn2 xc2), (.slice xA3 xn3 xc3), (.slice xA4 xn4 xc4), (.slice xA5 xn5 xc5)], .agg #[.int .i64 oI0, .int .i64 oI1]] w fun e w' => ∃ rA0 rn0 rc0 rA1 rn1 rc1, e = .returned (.agg #[.slice rA0 rn0 rc0, .slice rA1 rn1 rc1]) ∧ OwnL w' w.heap.size w'.heap.size [(.slice rA0 rn0 rc0, .ints (uS kI0 kL1 xL0 xL1 xL2 xL3 xL4 xL5 oI0 oI1)), (.slice rA1 rn1 rc1, .ints (uM kI0 kL1 xL0 xL1 xL2 xL3 xL4 xL5 oI0 oI1))] ∧ Below w.heap.size w w' := by
  have kL1i : Ints w kA1 kn1 kL1 := Rd.toInts (kH ((.slice kA1 kn1 kc1), .ints kL1) (by simp))
  have kL1l := Lib.hid kL1i.len
  have kL1m : kn1 ≤ 1048576 := by rw [← kL1l.out]; exact kL1n
  have xL0i : Ints w xA0 xn0 xL0 := Rd.toInts (xH ((.slice xA0 xn0 xc0), .ints xL0) (by simp))
  have xL0l := Lib.hid xL0i.len
  have xL0m : xn0 ≤ 1048576 := by rw [← xL0l.out]; exact xL0n
  have xL1i : Ints w xA1 xn1 xL1 := Rd.toInts (xH ((.slice xA1 xn1 xc1), .ints xL1) (by simp))
  have xL1l := Lib.hid xL1i.len
  have xL1m : xn1 ≤ 1048576 := by rw [← xL1l.out]; exact xL1n
  have xL2i : Ints w xA2 xn2 xL2 := Rd.toInts (xH ((.slice xA2 xn2 xc2), .ints xL2) (by simp))
  have xL2l := Lib.hid xL2i.len
  have xL2m : xn2 ≤ 1048576 := by rw [← xL2l.out]; exact xL2n
  have xL3i : Ints w xA3 xn3 xL3 := Rd.toInts (xH ((.slice xA3 xn3 xc3), .ints xL3) (by simp))
  have xL3l := Lib.hid xL3i.len
  have xL3m : xn3 ≤ 1048576 := by rw [← xL3l.out]; exact xL3n
  have xL4i : Ints w xA4 xn4 xL4 := Rd.toInts (xH ((.slice xA4 xn4 xc4), .ints xL4) (by simp))
  have xL4l := Lib.hid xL4i.len
  have xL4m : xn4 ≤ 1048576 := by rw [← xL4l.out]; exact xL4n
  have xL5i : Ints w xA5 xn5 xL5 := Rd.toInts (xH ((.slice xA5 xn5 xc5), .ints xL5) (by simp))
  have xL5l := Lib.hid xL5i.len
  have xL5m : xn5 ≤ 1048576 := by rw [← xL5l.out]; exact xL5n
  cases k1 : formOk kI0 kL1 xL0 xL1 with
  | false =>
    have HO : uOk kI0 kL1 xL0 xL1 xL2 xL3 xL4 xL5 oI0 oI1 = false := by simp [uOk, k1]
    go_enter Try.func80, Try.ntmps80
    go_wp2_with fail
    refine (sl23Form_L kI0 (RdL.b kH) kL1n (RdL.b (ls := [((.slice xA0 xn0 xc0), .ints xL0), ((.slice xA1 xn1 xc1), .ints xL1)]) (RdL.sub xH (by simp))) xL0n xL1n).mono ?_
    rintro e w1 ⟨rfl, b1⟩
    have z1 := b1.size
    try simp only [World.size_alloc, World.size_setCell, size_drew] at z1
    have B1 : Below w.heap.size w w1 := Below.t b1
    have xk_ : Box w1 (w.heap.size) #[.int .i64 kI0, (.slice kA1 kn1 kc1)] 33 := ((((Box.new (g := w.heap.size) _ #[.int .i64 kI0, (.slice kA1 kn1 kc1)] 33 (by simp)).alloc _).alloc _).alloc _).below b1 (by first | omega | (simp [size_drew]; done) | (simp [size_drew]; omega))
    have xk := xk_; clear xk_
    have xx_ : Box w1 (w.heap.size + 1) #[(.slice xA0 xn0 xc0), (.slice xA1 xn1 xc1), (.slice xA2 xn2 xc2), (.slice xA3 xn3 xc3), (.slice xA4 xn4 xc4), (.slice xA5 xn5 xc5)] 68 := (((Box.new (g := w.heap.size + 1) _ #[(.slice xA0 xn0 xc0), (.slice xA1 xn1 xc1), (.slice xA2 xn2 xc2), (.slice xA3 xn3 xc3), (.slice xA4 xn4 xc4), (.slice xA5 xn5 xc5)] 68 (by simp)).alloc _).alloc _).below b1 (by first | omega | (simp [size_drew]; done) | (simp [size_drew]; omega))
    have xx := xx_; clear xx_
    have xo_ : Box w1 (w.heap.size + 1 + 1) #[.int .i64 oI0, .int .i64 oI1] 73 := ((Box.new (g := w.heap.size + 1 + 1) _ #[.int .i64 oI0, .int .i64 oI1] 73 (by simp)).alloc _).below b1 (by first | omega | (simp [size_drew]; done) | (simp [size_drew]; omega))
    have xo := xo_; clear xo_
    have xr_ : Box w1 (w.heap.size + 1 + 1 + 1) #[.slice none 0 0, .slice none 0 0] 38 := (Box.new (g := w.heap.size + 1 + 1 + 1) _ #[.slice none 0 0, .slice none 0 0] 38 (by simp)).below b1 (by first | omega | (simp [size_drew]; done) | (simp [size_drew]; omega))
    have xr := xr_; clear xr_
    obtain ⟨cxr_0, cxr_1, fxr_0, fxr_1⟩ := xr.two
    have l_xr_0 : w.heap.size + 1 + 1 + 1 < w1.heap.size := by omega
    go_wp2
    refine bodyPost_ret (v := .agg #[.slice none 0 0, .slice none 0 0]) ?_ rfl ⟨_, _, _, _, _, _, rfl, ?_, ?_⟩
    · simp [results, Try.results80, go_sem, cxr_0, cxr_1, fxr_0, fxr_1, l_xr_0]
    · rw [uS_no HO, uM_no HO]; exact OwnL.nones _ (by simp) (by first | omega | (simp [size_drew]; done) | (simp [size_drew]; omega))
    · repeat (with_reducible (first | assumption | exact Below.refl _ _ | refine Below.alloc ?_ (by first | omega | (simp; done) | (simp; omega)) _ | refine Below.setCell ?_ (by first | omega | (simp; done) | (simp; omega)) _ | refine Below.drew ?_ | refine below_drewN ?_ _))
  | true =>
    cases k2 : formOk kI0 kL1 xL2 xL3 with
    | false =>
      have HO : uOk kI0 kL1 xL0 xL1 xL2 xL3 xL4 xL5 oI0 oI1 = false := by simp [uOk, k1, k2]
      go_enter Try.func80, Try.ntmps80
      go_wp2_with fail
      refine (sl23Form_L kI0 (RdL.b kH) kL1n (RdL.b (ls := [((.slice xA0 xn0 xc0), .ints xL0), ((.slice xA1 xn1 xc1), .ints xL1)]) (RdL.sub xH (by simp))) xL0n xL1n).mono ?_
      rintro e w1 ⟨rfl, b1⟩
      have z1 := b1.size
      try simp only [World.size_alloc, World.size_setCell, size_drew] at z1
      have B1 : Below w.heap.size w w1 := Below.t b1
      have xk_ : Box w1 (w.heap.size) #[.int .i64 kI0, (.slice kA1 kn1 kc1)] 33 := ((((Box.new (g := w.heap.size) _ #[.int .i64 kI0, (.slice kA1 kn1 kc1)] 33 (by simp)).alloc _).alloc _).alloc _).below b1 (by first | omega | (simp [size_drew]; done) | (simp [size_drew]; omega))
      have xk := xk_; clear xk_
      have xx_ : Box w1 (w.heap.size + 1) #[(.slice xA0 xn0 xc0), (.slice xA1 xn1 xc1), (.slice xA2 xn2 xc2), (.slice xA3 xn3 xc3), (.slice xA4 xn4 xc4), (.slice xA5 xn5 xc5)] 68 := (((Box.new (g := w.heap.size + 1) _ #[(.slice xA0 xn0 xc0), (.slice xA1 xn1 xc1), (.slice xA2 xn2 xc2), (.slice xA3 xn3 xc3), (.slice xA4 xn4 xc4), (.slice xA5 xn5 xc5)] 68 (by simp)).alloc _).alloc _).below b1 (by first | omega | (simp [size_drew]; done) | (simp [size_drew]; omega))
      have xx := xx_; clear xx_
      have xo_ : Box w1 (w.heap.size + 1 + 1) #[.int .i64 oI0, .int .i64 oI1] 73 := ((Box.new (g := w.heap.size + 1 + 1) _ #[.int .i64 oI0, .int .i64 oI1] 73 (by simp)).alloc _).below b1 (by first | omega | (simp [size_drew]; done) | (simp [size_drew]; omega))
      have xo := xo_; clear xo_
      have xr_ : Box w1 (w.heap.size + 1 + 1 + 1) #[.slice none 0 0, .slice none 0 0] 38 := (Box.new (g := w.heap.size + 1 + 1 + 1) _ #[.slice none 0 0, .slice none 0 0] 38 (by simp)).below b1 (by first | omega | (simp [size_drew]; done) | (simp [size_drew]; omega))
      have xr := xr_; clear xr_
      obtain ⟨cxk_0, cxk_1, fxk_0, fxk_1⟩ := xk.two
      have l_xk_0 : w.heap.size < w1.heap.size := by omega
      obtain ⟨cxx_0, cxx_1, cxx_2, cxx_3, cxx_4, cxx_5, fxx_0, fxx_1, fxx_2, fxx_3, fxx_4, fxx_5⟩ := xx.six
      have l_xx_0 : w.heap.size + 1 < w1.heap.size := by omega
      go_wp2_with fail
      refine (sl23Form_L kI0 (RdL.b kH) kL1n (RdL.b (ls := [((.slice xA2 xn2 xc2), .ints xL2), ((.slice xA3 xn3 xc3), .ints xL3)]) (RdL.sub xH (by simp))) xL2n xL3n).mono ?_
      rintro e w2 ⟨rfl, b2⟩
      clear cxk_0 cxk_1 fxk_0 fxk_1 l_xk_0 cxx_0 cxx_1 cxx_2 cxx_3 cxx_4 cxx_5 fxx_0 fxx_1 fxx_2 fxx_3 fxx_4 fxx_5 l_xx_0
      have z2 := b2.size
      try simp only [World.size_alloc, World.size_setCell, size_drew] at z2
      have B2 : Below w.heap.size w w2 := Below.t b2
      have xk_ : Box w2 (w.heap.size) #[.int .i64 kI0, (.slice kA1 kn1 kc1)] 33 := xk.below b2 (by first | omega | (simp [size_drew]; done) | (simp [size_drew]; omega))
      clear xk; have xk := xk_; clear xk_
      have xx_ : Box w2 (w.heap.size + 1) #[(.slice xA0 xn0 xc0), (.slice xA1 xn1 xc1), (.slice xA2 xn2 xc2), (.slice xA3 xn3 xc3), (.slice xA4 xn4 xc4), (.slice xA5 xn5 xc5)] 68 := xx.below b2 (by first | omega | (simp [size_drew]; done) | (simp [size_drew]; omega))
      clear xx; have xx := xx_; clear xx_
      have xo_ : Box w2 (w.heap.size + 1 + 1) #[.int .i64 oI0, .int .i64 oI1] 73 := xo.below b2 (by first | omega | (simp [size_drew]; done) | (simp [size_drew]; omega))
      clear xo; have xo := xo_; clear xo_
      have xr_ : Box w2 (w.heap.size + 1 + 1 + 1) #[.slice none 0 0, .slice none 0 0] 38 := xr.below b2 (by first | omega | (simp [size_drew]; done) | (simp [size_drew]; omega))
      clear xr; have xr := xr_; clear xr_
      obtain ⟨cxr_0, cxr_1, fxr_0, fxr_1⟩ := xr.two
      have l_xr_0 : w.heap.size + 1 + 1 + 1 < w2.heap.size := by omega
      go_wp2
      refine bodyPost_ret (v := .agg #[.slice none 0 0, .slice none 0 0]) ?_ rfl ⟨_, _, _, _, _, _, rfl, ?_, ?_⟩
      · simp [results, Try.results80, go_sem, cxr_0, cxr_1, fxr_0, fxr_1, l_xr_0]
      · rw [uS_no HO, uM_no HO]; exact OwnL.nones _ (by simp) (by first | omega | (simp [size_drew]; done) | (simp [size_drew]; omega))
      · repeat (with_reducible (first | assumption | exact Below.refl _ _ | refine Below.alloc ?_ (by first | omega | (simp; done) | (simp; omega)) _ | refine Below.setCell ?_ (by first | omega | (simp; done) | (simp; omega)) _ | refine Below.drew ?_ | refine below_drewN ?_ _))
    | true =>
      cases k3 : formOk kI0 kL1 xL4 xL5 with
      | false =>
        have HO : uOk kI0 kL1 xL0 xL1 xL2 xL3 xL4 xL5 oI0 oI1 = false := by simp [uOk, k1, k2, k3]
        go_enter Try.func80, Try.ntmps80
        go_wp2_with fail
        refine (sl23Form_L kI0 (RdL.b kH) kL1n (RdL.b (ls := [((.slice xA0 xn0 xc0), .ints xL0), ((.slice xA1 xn1 xc1), .ints xL1)]) (RdL.sub xH (by simp))) xL0n xL1n).mono ?_
        rintro e w1 ⟨rfl, b1⟩
        have z1 := b1.size
        try simp only [World.size_alloc, World.size_setCell, size_drew] at z1
        have B1 : Below w.heap.size w w1 := Below.t b1
        have xk_ : Box w1 (w.heap.size) #[.int .i64 kI0, (.slice kA1 kn1 kc1)] 33 := ((((Box.new (g := w.heap.size) _ #[.int .i64 kI0, (.slice kA1 kn1 kc1)] 33 (by simp)).alloc _).alloc _).alloc _).below b1 (by first | omega | (simp [size_drew]; done) | (simp [size_drew]; omega))
        have xk := xk_; clear xk_
        have xx_ : Box w1 (w.heap.size + 1) #[(.slice xA0 xn0 xc0), (.slice xA1 xn1 xc1), (.slice xA2 xn2 xc2), (.slice xA3 xn3 xc3), (.slice xA4 xn4 xc4), (.slice xA5 xn5 xc5)] 68 := (((Box.new (g := w.heap.size + 1) _ #[(.slice xA0 xn0 xc0), (.slice xA1 xn1 xc1), (.slice xA2 xn2 xc2), (.slice xA3 xn3 xc3), (.slice xA4 xn4 xc4), (.slice xA5 xn5 xc5)] 68 (by simp)).alloc _).alloc _).below b1 (by first | omega | (simp [size_drew]; done) | (simp [size_drew]; omega))
        have xx := xx_; clear xx_
        have xo_ : Box w1 (w.heap.size + 1 + 1) #[.int .i64 oI0, .int .i64 oI1] 73 := ((Box.new (g := w.heap.size + 1 + 1) _ #[.int .i64 oI0, .int .i64 oI1] 73 (by simp)).alloc _).below b1 (by first | omega | (simp [size_drew]; done) | (simp [size_drew]; omega))
        have xo := xo_; clear xo_
        have xr_ : Box w1 (w.heap.size + 1 + 1 + 1) #[.slice none 0 0, .slice none 0 0] 38 := (Box.new (g := w.heap.size + 1 + 1 + 1) _ #[.slice none 0 0, .slice none 0 0] 38 (by simp)).below b1 (by first | omega | (simp [size_drew]; done) | (simp [size_drew]; omega))
        have xr := xr_; clear xr_
        obtain ⟨cxk_0, cxk_1, fxk_0, fxk_1⟩ := xk.two
        have l_xk_0 : w.heap.size < w1.heap.size := by omega
        obtain ⟨cxx_0, cxx_1, cxx_2, cxx_3, cxx_4, cxx_5, fxx_0, fxx_1, fxx_2, fxx_3, fxx_4, fxx_5⟩ := xx.six
        have l_xx_0 : w.heap.size + 1 < w1.heap.size := by omega
        go_wp2_with fail
        refine (sl23Form_L kI0 (RdL.b kH) kL1n (RdL.b (ls := [((.slice xA2 xn2 xc2), .ints xL2), ((.slice xA3 xn3 xc3), .ints xL3)]) (RdL.sub xH (by simp))) xL2n xL3n).mono ?_
        rintro e w2 ⟨rfl, b2⟩
        clear cxk_0 cxk_1 fxk_0 fxk_1 l_xk_0 cxx_0 cxx_1 cxx_2 cxx_3 cxx_4 cxx_5 fxx_0 fxx_1 fxx_2 fxx_3 fxx_4 fxx_5 l_xx_0
        have z2 := b2.size
        try simp only [World.size_alloc, World.size_setCell, size_drew] at z2
        have B2 : Below w.heap.size w w2 := Below.t b2
        have xk_ : Box w2 (w.heap.size) #[.int .i64 kI0, (.slice kA1 kn1 kc1)] 33 := xk.below b2 (by first | omega | (simp [size_drew]; done) | (simp [size_drew]; omega))
        clear xk; have xk := xk_; clear xk_
        have xx_ : Box w2 (w.heap.size + 1) #[(.slice xA0 xn0 xc0), (.slice xA1 xn1 xc1), (.slice xA2 xn2 xc2), (.slice xA3 xn3 xc3), (.slice xA4 xn4 xc4), (.slice xA5 xn5 xc5)] 68 := xx.below b2 (by first | omega | (simp [size_drew]; done) | (simp [size_drew]; omega))
        clear xx; have xx := xx_; clear xx_
        have xo_ : Box w2 (w.heap.size + 1 + 1) #[.int .i64 oI0, .int .i64 oI1] 73 := xo.below b2 (by first | omega | (simp [size_drew]; done) | (simp [size_drew]; omega))
        clear xo; have xo := xo_; clear xo_
        have xr_ : Box w2 (w.heap.size + 1 + 1 + 1) #[.slice none 0 0, .slice none 0 0] 38 := xr.below b2 (by first | omega | (simp [size_drew]; done) | (simp [size_drew]; omega))
        clear xr; have xr := xr_; clear xr_
        obtain ⟨cxk_0, cxk_1, fxk_0, fxk_1⟩ := xk.two
        have l_xk_0 : w.heap.size < w2.heap.size := by omega
        obtain ⟨cxx_0, cxx_1, cxx_2, cxx_3, cxx_4, cxx_5, fxx_0, fxx_1, fxx_2, fxx_3, fxx_4, fxx_5⟩ := xx.six
        have l_xx_0 : w.heap.size + 1 < w2.heap.size := by omega
        go_wp2_with fail
        refine (sl23Form_L kI0 (RdL.b kH) kL1n (RdL.b (ls := [((.slice xA4 xn4 xc4), .ints xL4), ((.slice xA5 xn5 xc5), .ints xL5)]) (RdL.sub xH (by simp))) xL4n xL5n).mono ?_
        rintro e w3 ⟨rfl, b3⟩
        clear cxk_0 cxk_1 fxk_0 fxk_1 l_xk_0 cxx_0 cxx_1 cxx_2 cxx_3 cxx_4 cxx_5 fxx_0 fxx_1 fxx_2 fxx_3 fxx_4 fxx_5 l_xx_0
        have z3 := b3.size
        try simp only [World.size_alloc, World.size_setCell, size_drew] at z3
        have B3 : Below w.heap.size w w3 := Below.t b3
        have xk_ : Box w3 (w.heap.size) #[.int .i64 kI0, (.slice kA1 kn1 kc1)] 33 := xk.below b3 (by first | omega | (simp [size_drew]; done) | (simp [size_drew]; omega))
        clear xk; have xk := xk_; clear xk_
        have xx_ : Box w3 (w.heap.size + 1) #[(.slice xA0 xn0 xc0), (.slice xA1 xn1 xc1), (.slice xA2 xn2 xc2), (.slice xA3 xn3 xc3), (.slice xA4 xn4 xc4), (.slice xA5 xn5 xc5)] 68 := xx.below b3 (by first | omega | (simp [size_drew]; done) | (simp [size_drew]; omega))
        clear xx; have xx := xx_; clear xx_
        have xo_ : Box w3 (w.heap.size + 1 + 1) #[.int .i64 oI0, .int .i64 oI1] 73 := xo.below b3 (by first | omega | (simp [size_drew]; done) | (simp [size_drew]; omega))
        clear xo; have xo := xo_; clear xo_
        have xr_ : Box w3 (w.heap.size + 1 + 1 + 1) #[.slice none 0 0, .slice none 0 0] 38 := xr.below b3 (by first | omega | (simp [size_drew]; done) | (simp [size_drew]; omega))
        clear xr; have xr := xr_; clear xr_
        obtain ⟨cxr_0, cxr_1, fxr_0, fxr_1⟩ := xr.two
        have l_xr_0 : w.heap.size + 1 + 1 + 1 < w3.heap.size := by omega
        go_wp2
        refine bodyPost_ret (v := .agg #[.slice none 0 0, .slice none 0 0]) ?_ rfl ⟨_, _, _, _, _, _, rfl, ?_, ?_⟩
        · simp [results, Try.results80, go_sem, cxr_0, cxr_1, fxr_0, fxr_1, l_xr_0]
        · rw [uS_no HO, uM_no HO]; exact OwnL.nones _ (by simp) (by first | omega | (simp [size_drew]; done) | (simp [size_drew]; omega))
        · repeat (with_reducible (first | assumption | exact Below.refl _ _ | refine Below.alloc ?_ (by first | omega | (simp; done) | (simp; omega)) _ | refine Below.setCell ?_ (by first | omega | (simp; done) | (simp; omega)) _ | refine Below.drew ?_ | refine below_drewN ?_ _))
      | true =>
        cases k4 : (elem kI0 oI0 && elem kI0 oI1) with
        | false =>
          have HO : uOk kI0 kL1 xL0 xL1 xL2 xL3 xL4 xL5 oI0 oI1 = false := by simp [uOk, k1, k2, k3, k4]
          go_enter Try.func80, Try.ntmps80
          go_wp2_with fail
          refine (sl23Form_L kI0 (RdL.b kH) kL1n (RdL.b (ls := [((.slice xA0 xn0 xc0), .ints xL0), ((.slice xA1 xn1 xc1), .ints xL1)]) (RdL.sub xH (by simp))) xL0n xL1n).mono ?_
          rintro e w1 ⟨rfl, b1⟩
          have z1 := b1.size
          try simp only [World.size_alloc, World.size_setCell, size_drew] at z1
          have B1 : Below w.heap.size w w1 := Below.t b1
          have xk_ : Box w1 (w.heap.size) #[.int .i64 kI0, (.slice kA1 kn1 kc1)] 33 := ((((Box.new (g := w.heap.size) _ #[.int .i64 kI0, (.slice kA1 kn1 kc1)] 33 (by simp)).alloc _).alloc _).alloc _).below b1 (by first | omega | (simp [size_drew]; done) | (simp [size_drew]; omega))
          have xk := xk_; clear xk_
          have xx_ : Box w1 (w.heap.size + 1) #[(.slice xA0 xn0 xc0), (.slice xA1 xn1 xc1), (.slice xA2 xn2 xc2), (.slice xA3 xn3 xc3), (.slice xA4 xn4 xc4), (.slice xA5 xn5 xc5)] 68 := (((Box.new (g := w.heap.size + 1) _ #[(.slice xA0 xn0 xc0), (.slice xA1 xn1 xc1), (.slice xA2 xn2 xc2), (.slice xA3 xn3 xc3), (.slice xA4 xn4 xc4), (.slice xA5 xn5 xc5)] 68 (by simp)).alloc _).alloc _).below b1 (by first | omega | (simp [size_drew]; done) | (simp [size_drew]; omega))
          have xx := xx_; clear xx_
          have xo_ : Box w1 (w.heap.size + 1 + 1) #[.int .i64 oI0, .int .i64 oI1] 73 := ((Box.new (g := w.heap.size + 1 + 1) _ #[.int .i64 oI0, .int .i64 oI1] 73 (by simp)).alloc _).below b1 (by first | omega | (simp [size_drew]; done) | (simp [size_drew]; omega))
          have xo := xo_; clear xo_
          have xr_ : Box w1 (w.heap.size + 1 + 1 + 1) #[.slice none 0 0, .slice none 0 0] 38 := (Box.new (g := w.heap.size + 1 + 1 + 1) _ #[.slice none 0 0, .slice none 0 0] 38 (by simp)).below b1 (by first | omega | (simp [size_drew]; done) | (simp [size_drew]; omega))
          have xr := xr_; clear xr_
          obtain ⟨cxk_0, cxk_1, fxk_0, fxk_1⟩ := xk.two
          have l_xk_0 : w.heap.size < w1.heap.size := by omega
          obtain ⟨cxx_0, cxx_1, cxx_2, cxx_3, cxx_4, cxx_5, fxx_0, fxx_1, fxx_2, fxx_3, fxx_4, fxx_5⟩ := xx.six
          have l_xx_0 : w.heap.size + 1 < w1.heap.size := by omega
          go_wp2_with fail
          refine (sl23Form_L kI0 (RdL.b kH) kL1n (RdL.b (ls := [((.slice xA2 xn2 xc2), .ints xL2), ((.slice xA3 xn3 xc3), .ints xL3)]) (RdL.sub xH (by simp))) xL2n xL3n).mono ?_
          rintro e w2 ⟨rfl, b2⟩
          clear cxk_0 cxk_1 fxk_0 fxk_1 l_xk_0 cxx_0 cxx_1 cxx_2 cxx_3 cxx_4 cxx_5 fxx_0 fxx_1 fxx_2 fxx_3 fxx_4 fxx_5 l_xx_0
          have z2 := b2.size
          try simp only [World.size_alloc, World.size_setCell, size_drew] at z2
          have B2 : Below w.heap.size w w2 := Below.t b2
          have xk_ : Box w2 (w.heap.size) #[.int .i64 kI0, (.slice kA1 kn1 kc1)] 33 := xk.below b2 (by first | omega | (simp [size_drew]; done) | (simp [size_drew]; omega))
          clear xk; have xk := xk_; clear xk_
          have xx_ : Box w2 (w.heap.size + 1) #[(.slice xA0 xn0 xc0), (.slice xA1 xn1 xc1), (.slice xA2 xn2 xc2), (.slice xA3 xn3 xc3), (.slice xA4 xn4 xc4), (.slice xA5 xn5 xc5)] 68 := xx.below b2 (by first | omega | (simp [size_drew]; done) | (simp [size_drew]; omega))
          clear xx; have xx := xx_; clear xx_
          have xo_ : Box w2 (w.heap.size + 1 + 1) #[.int .i64 oI0, .int .i64 oI1] 73 := xo.below b2 (by first | omega | (simp [size_drew]; done) | (simp [size_drew]; omega))
          clear xo; have xo := xo_; clear xo_
          have xr_ : Box w2 (w.heap.size + 1 + 1 + 1) #[.slice none 0 0, .slice none 0 0] 38 := xr.below b2 (by first | omega | (simp [size_drew]; done) | (simp [size_drew]; omega))
          clear xr; have xr := xr_; clear xr_
          obtain ⟨cxk_0, cxk_1, fxk_0, fxk_1⟩ := xk.two
          have l_xk_0 : w.heap.size < w2.heap.size := by omega
          obtain ⟨cxx_0, cxx_1, cxx_2, cxx_3, cxx_4, cxx_5, fxx_0, fxx_1, fxx_2, fxx_3, fxx_4, fxx_5⟩ := xx.six
          have l_xx_0 : w.heap.size + 1 < w2.heap.size := by omega
          go_wp2_with fail
          refine (sl23Form_L kI0 (RdL.b kH) kL1n (RdL.b (ls := [((.slice xA4 xn4 xc4), .ints xL4), ((.slice xA5 xn5 xc5), .ints xL5)]) (RdL.sub xH (by simp))) xL4n xL5n).mono ?_
          rintro e w3 ⟨rfl, b3⟩
          clear cxk_0 cxk_1 fxk_0 fxk_1 l_xk_0 cxx_0 cxx_1 cxx_2 cxx_3 cxx_4 cxx_5 fxx_0 fxx_1 fxx_2 fxx_3 fxx_4 fxx_5 l_xx_0
          have z3 := b3.size
          try simp only [World.size_alloc, World.size_setCell, size_drew] at z3
          have B3 : Below w.heap.size w w3 := Below.t b3
          have xk_ : Box w3 (w.heap.size) #[.int .i64 kI0, (.slice kA1 kn1 kc1)] 33 := xk.below b3 (by first | omega | (simp [size_drew]; done) | (simp [size_drew]; omega))
          clear xk; have xk := xk_; clear xk_
          have xx_ : Box w3 (w.heap.size + 1) #[(.slice xA0 xn0 xc0), (.slice xA1 xn1 xc1), (.slice xA2 xn2 xc2), (.slice xA3 xn3 xc3), (.slice xA4 xn4 xc4), (.slice xA5 xn5 xc5)] 68 := xx.below b3 (by first | omega | (simp [size_drew]; done) | (simp [size_drew]; omega))
          clear xx; have xx := xx_; clear xx_
          have xo_ : Box w3 (w.heap.size + 1 + 1) #[.int .i64 oI0, .int .i64 oI1] 73 := xo.below b3 (by first | omega | (simp [size_drew]; done) | (simp [size_drew]; omega))
          clear xo; have xo := xo_; clear xo_
          have xr_ : Box w3 (w.heap.size + 1 + 1 + 1) #[.slice none 0 0, .slice none 0 0] 38 := xr.below b3 (by first | omega | (simp [size_drew]; done) | (simp [size_drew]; omega))
          clear xr; have xr := xr_; clear xr_
          obtain ⟨cxk_0, cxk_1, fxk_0, fxk_1⟩ := xk.two
          have l_xk_0 : w.heap.size < w3.heap.size := by omega
          obtain ⟨cxo_0, cxo_1, fxo_0, fxo_1⟩ := xo.two
          have l_xo_0 : w.heap.size + 1 + 1 < w3.heap.size := by omega
          go_wp2_with fail
          refine (l03Both_any _ _ _ _).mono ?_
          rintro e w_ ⟨rfl, rfl⟩
          obtain ⟨cxr_0, cxr_1, fxr_0, fxr_1⟩ := xr.two
          have l_xr_0 : w.heap.size + 1 + 1 + 1 < w3.heap.size := by omega
          go_wp2
          refine bodyPost_ret (v := .agg #[.slice none 0 0, .slice none 0 0]) ?_ rfl ⟨_, _, _, _, _, _, rfl, ?_, ?_⟩
          · simp [results, Try.results80, go_sem, cxr_0, cxr_1, fxr_0, fxr_1, l_xr_0]
          · rw [uS_no HO, uM_no HO]; exact OwnL.nones _ (by simp) (by first | omega | (simp [size_drew]; done) | (simp [size_drew]; omega))
          · repeat (with_reducible (first | assumption | exact Below.refl _ _ | refine Below.alloc ?_ (by first | omega | (simp; done) | (simp; omega)) _ | refine Below.setCell ?_ (by first | omega | (simp; done) | (simp; omega)) _ | refine Below.drew ?_ | refine below_drewN ?_ _))
        | true =>
          have HO : uOk kI0 kL1 xL0 xL1 xL2 xL3 xL4 xL5 oI0 oI1 = true := by simp [uOk, k1, k2, k3, k4]
          go_enter Try.func80, Try.ntmps80
          go_wp2_with fail
          refine (sl23Form_L kI0 (RdL.b kH) kL1n (RdL.b (ls := [((.slice xA0 xn0 xc0), .ints xL0), ((.slice xA1 xn1 xc1), .ints xL1)]) (RdL.sub xH (by simp))) xL0n xL1n).mono ?_
          rintro e w1 ⟨rfl, b1⟩
          have z1 := b1.size
          try simp only [World.size_alloc, World.size_setCell, size_drew] at z1
          have B1 : Below w.heap.size w w1 := Below.t b1
          have xk_ : Box w1 (w.heap.size) #[.int .i64 kI0, (.slice kA1 kn1 kc1)] 33 := ((((Box.new (g := w.heap.size) _ #[.int .i64 kI0, (.slice kA1 kn1 kc1)] 33 (by simp)).alloc _).alloc _).alloc _).below b1 (by first | omega | (simp [size_drew]; done) | (simp [size_drew]; omega))
          have xk := xk_; clear xk_
          have xx_ : Box w1 (w.heap.size + 1) #[(.slice xA0 xn0 xc0), (.slice xA1 xn1 xc1), (.slice xA2 xn2 xc2), (.slice xA3 xn3 xc3), (.slice xA4 xn4 xc4), (.slice xA5 xn5 xc5)] 68 := (((Box.new (g := w.heap.size + 1) _ #[(.slice xA0 xn0 xc0), (.slice xA1 xn1 xc1), (.slice xA2 xn2 xc2), (.slice xA3 xn3 xc3), (.slice xA4 xn4 xc4), (.slice xA5 xn5 xc5)] 68 (by simp)).alloc _).alloc _).below b1 (by first | omega | (simp [size_drew]; done) | (simp [size_drew]; omega))
          have xx := xx_; clear xx_
          have xo_ : Box w1 (w.heap.size + 1 + 1) #[.int .i64 oI0, .int .i64 oI1] 73 := ((Box.new (g := w.heap.size + 1 + 1) _ #[.int .i64 oI0, .int .i64 oI1] 73 (by simp)).alloc _).below b1 (by first | omega | (simp [size_drew]; done) | (simp [size_drew]; omega))
          have xo := xo_; clear xo_
          have xr_ : Box w1 (w.heap.size + 1 + 1 + 1) #[.slice none 0 0, .slice none 0 0] 38 := (Box.new (g := w.heap.size + 1 + 1 + 1) _ #[.slice none 0 0, .slice none 0 0] 38 (by simp)).below b1 (by first | omega | (simp [size_drew]; done) | (simp [size_drew]; omega))
          have xr := xr_; clear xr_
          obtain ⟨cxk_0, cxk_1, fxk_0, fxk_1⟩ := xk.two
          have l_xk_0 : w.heap.size < w1.heap.size := by omega
          obtain ⟨cxx_0, cxx_1, cxx_2, cxx_3, cxx_4, cxx_5, fxx_0, fxx_1, fxx_2, fxx_3, fxx_4, fxx_5⟩ := xx.six
          have l_xx_0 : w.heap.size + 1 < w1.heap.size := by omega
          go_wp2_with fail
          refine (sl23Form_L kI0 (RdL.b kH) kL1n (RdL.b (ls := [((.slice xA2 xn2 xc2), .ints xL2), ((.slice xA3 xn3 xc3), .ints xL3)]) (RdL.sub xH (by simp))) xL2n xL3n).mono ?_
          rintro e w2 ⟨rfl, b2⟩
          clear cxk_0 cxk_1 fxk_0 fxk_1 l_xk_0 cxx_0 cxx_1 cxx_2 cxx_3 cxx_4 cxx_5 fxx_0 fxx_1 fxx_2 fxx_3 fxx_4 fxx_5 l_xx_0
          have z2 := b2.size
          try simp only [World.size_alloc, World.size_setCell, size_drew] at z2
          have B2 : Below w.heap.size w w2 := Below.t b2
          have xk_ : Box w2 (w.heap.size) #[.int .i64 kI0, (.slice kA1 kn1 kc1)] 33 := xk.below b2 (by first | omega | (simp [size_drew]; done) | (simp [size_drew]; omega))
          clear xk; have xk := xk_; clear xk_
          have xx_ : Box w2 (w.heap.size + 1) #[(.slice xA0 xn0 xc0), (.slice xA1 xn1 xc1), (.slice xA2 xn2 xc2), (.slice xA3 xn3 xc3), (.slice xA4 xn4 xc4), (.slice xA5 xn5 xc5)] 68 := xx.below b2 (by first | omega | (simp [size_drew]; done) | (simp [size_drew]; omega))
          clear xx; have xx := xx_; clear xx_
          have xo_ : Box w2 (w.heap.size + 1 + 1) #[.int .i64 oI0, .int .i64 oI1] 73 := xo.below b2 (by first | omega | (simp [size_drew]; done) | (simp [size_drew]; omega))
          clear xo; have xo := xo_; clear xo_
          have xr_ : Box w2 (w.heap.size + 1 + 1 + 1) #[.slice none 0 0, .slice none 0 0] 38 := xr.below b2 (by first | omega | (simp [size_drew]; done) | (simp [size_drew]; omega))
          clear xr; have xr := xr_; clear xr_
          obtain ⟨cxk_0, cxk_1, fxk_0, fxk_1⟩ := xk.two
          have l_xk_0 : w.heap.size < w2.heap.size := by omega
          obtain ⟨cxx_0, cxx_1, cxx_2, cxx_3, cxx_4, cxx_5, fxx_0, fxx_1, fxx_2, fxx_3, fxx_4, fxx_5⟩ := xx.six
          have l_xx_0 : w.heap.size + 1 < w2.heap.size := by omega
          go_wp2_with fail
          refine (sl23Form_L kI0 (RdL.b kH) kL1n (RdL.b (ls := [((.slice xA4 xn4 xc4), .ints xL4), ((.slice xA5 xn5 xc5), .ints xL5)]) (RdL.sub xH (by simp))) xL4n xL5n).mono ?_
          rintro e w3 ⟨rfl, b3⟩
          clear cxk_0 cxk_1 fxk_0 fxk_1 l_xk_0 cxx_0 cxx_1 cxx_2 cxx_3 cxx_4 cxx_5 fxx_0 fxx_1 fxx_2 fxx_3 fxx_4 fxx_5 l_xx_0
          have z3 := b3.size
          try simp only [World.size_alloc, World.size_setCell, size_drew] at z3
          have B3 : Below w.heap.size w w3 := Below.t b3
          have xk_ : Box w3 (w.heap.size) #[.int .i64 kI0, (.slice kA1 kn1 kc1)] 33 := xk.below b3 (by first | omega | (simp [size_drew]; done) | (simp [size_drew]; omega))
          clear xk; have xk := xk_; clear xk_
          have xx_ : Box w3 (w.heap.size + 1) #[(.slice xA0 xn0 xc0), (.slice xA1 xn1 xc1), (.slice xA2 xn2 xc2), (.slice xA3 xn3 xc3), (.slice xA4 xn4 xc4), (.slice xA5 xn5 xc5)] 68 := xx.below b3 (by first | omega | (simp [size_drew]; done) | (simp [size_drew]; omega))
          clear xx; have xx := xx_; clear xx_
          have xo_ : Box w3 (w.heap.size + 1 + 1) #[.int .i64 oI0, .int .i64 oI1] 73 := xo.below b3 (by first | omega | (simp [size_drew]; done) | (simp [size_drew]; omega))
          clear xo; have xo := xo_; clear xo_
          have xr_ : Box w3 (w.heap.size + 1 + 1 + 1) #[.slice none 0 0, .slice none 0 0] 38 := xr.below b3 (by first | omega | (simp [size_drew]; done) | (simp [size_drew]; omega))
          clear xr; have xr := xr_; clear xr_
          obtain ⟨cxk_0, cxk_1, fxk_0, fxk_1⟩ := xk.two
          have l_xk_0 : w.heap.size < w3.heap.size := by omega
          obtain ⟨cxo_0, cxo_1, fxo_0, fxo_1⟩ := xo.two
          have l_xo_0 : w.heap.size + 1 + 1 < w3.heap.size := by omega
          go_wp2_with fail
          refine (l03Both_any _ _ _ _).mono ?_
          rintro e w_ ⟨rfl, rfl⟩
          obtain ⟨cxk_0, cxk_1, fxk_0, fxk_1⟩ := xk.two
          have l_xk_0 : w.heap.size < w3.heap.size := by omega
          obtain ⟨cxx_0, cxx_1, cxx_2, cxx_3, cxx_4, cxx_5, fxx_0, fxx_1, fxx_2, fxx_3, fxx_4, fxx_5⟩ := xx.six
          have l_xx_0 : w.heap.size + 1 < w3.heap.size := by omega
          obtain ⟨cxo_0, cxo_1, fxo_0, fxo_1⟩ := xo.two
          have l_xo_0 : w.heap.size + 1 + 1 < w3.heap.size := by omega
          go_wp2_with fail
          clear cxk_0 cxk_1 fxk_0 fxk_1 l_xk_0 cxx_0 cxx_1 cxx_2 cxx_3 cxx_4 cxx_5 fxx_0 fxx_1 fxx_2 fxx_3 fxx_4 fxx_5 l_xx_0 cxo_0 cxo_1 fxo_0 fxo_1 l_xo_0
          refine wp_region_M [11] (w3.heap.size) 12 (S := fun W => Below w.heap.size w W ∧ Below w3.heap.size w3 W ∧ W.cell? ⟨w.heap.size, 0, none⟩ = some (.int .i64 kI0) ∧ W.cell? ⟨w.heap.size, 1, none⟩ = some ((.slice kA1 kn1 kc1)) ∧ W.cell? ⟨w.heap.size + 1, 0, none⟩ = some ((.slice xA0 xn0 xc0)) ∧ W.cell? ⟨w.heap.size + 1, 1, none⟩ = some ((.slice xA1 xn1 xc1)) ∧ W.cell? ⟨w.heap.size + 1, 2, none⟩ = some ((.slice xA2 xn2 xc2)) ∧ W.cell? ⟨w.heap.size + 1, 3, none⟩ = some ((.slice xA3 xn3 xc3)) ∧ W.cell? ⟨w.heap.size + 1, 4, none⟩ = some ((.slice xA4 xn4 xc4)) ∧ W.cell? ⟨w.heap.size + 1, 5, none⟩ = some ((.slice xA5 xn5 xc5)) ∧ W.cell? ⟨w.heap.size + 1 + 1, 0, none⟩ = some (.int .i64 oI0) ∧ W.cell? ⟨w.heap.size + 1 + 1, 1, none⟩ = some (.int .i64 oI1)) (by kernel_rfl) (by rfl) (fun W hW => ⟨Below.trans (b := _) (by repeat (with_reducible (first | assumption | exact Below.refl _ _ | refine Below.alloc ?_ (by first | omega | (simp; done) | (simp; omega)) _ | refine Below.setCell ?_ (by first | omega | (simp; done) | (simp; omega)) _ | refine Below.drew ?_ | refine below_drewN ?_ _))) (Below.mono hW (by first | omega | (simp [size_drew]; done) | (simp [size_drew]; omega))), Below.trans (b := _) (by repeat (with_reducible (first | assumption | exact Below.refl _ _ | refine Below.alloc ?_ (by first | omega | (simp; done) | (simp; omega)) _ | refine Below.setCell ?_ (by first | omega | (simp; done) | (simp; omega)) _ | refine Below.drew ?_ | refine below_drewN ?_ _))) (Below.mono hW (by first | omega | (simp [size_drew]; done) | (simp [size_drew]; omega))), (Box.below xk.drew hW (by first | omega | (simp [size_drew]; done) | (simp [size_drew]; omega))).two.1, (Box.below xk.drew hW (by first | omega | (simp [size_drew]; done) | (simp [size_drew]; omega))).two.2.1, (Box.below xx.drew hW (by first | omega | (simp [size_drew]; done) | (simp [size_drew]; omega))).six.1, (Box.below xx.drew hW (by first | omega | (simp [size_drew]; done) | (simp [size_drew]; omega))).six.2.1, (Box.below xx.drew hW (by first | omega | (simp [size_drew]; done) | (simp [size_drew]; omega))).six.2.2.1, (Box.below xx.drew hW (by first | omega | (simp [size_drew]; done) | (simp [size_drew]; omega))).six.2.2.2.1, (Box.below xx.drew hW (by first | omega | (simp [size_drew]; done) | (simp [size_drew]; omega))).six.2.2.2.2.1, (Box.below xx.drew hW (by first | omega | (simp [size_drew]; done) | (simp [size_drew]; omega))).six.2.2.2.2.2.1, (Box.below xo.drew hW (by first | omega | (simp [size_drew]; done) | (simp [size_drew]; omega))).two.1, (Box.below xo.drew hW (by first | omega | (simp [size_drew]; done) | (simp [size_drew]; omega))).two.2.1⟩) (by first | omega | (simp [size_drew]; done) | (simp [size_drew]; omega)) (fun hS hG => ?_)
          (try dsimp only at hS)
          refine pendM 10 7 #[.slice none 0 0, .slice none 0 0] 38 (by simp only [List.getElem?_toArray, List.getElem?_cons_succ, List.getElem?_cons_zero] <;> rfl) (by kernel_rfl) (by exact fun _ _ _ _ h => h) (by intro a W; unfold ptr; go_simp; (first | done | rfl)) hG ?_
          (refine tkM 0 hG hS ?_; (try simp only [Act.put, layA, layB, layC]))
          (refine tkM 1 hG hS ?_; (try simp only [Act.put, layA, layB, layC]))
          (refine tkM 2 hG hS ?_; (try simp only [Act.put, layA, layB, layC]))
          (refine tkM 3 hG hS ?_; (try simp only [Act.put, layA, layB, layC]))
          (refine tkM 4 hG hS ?_; (try simp only [Act.put, layA, layB, layC]))
          (refine tkM 5 hG hS ?_; (try simp only [Act.put, layA, layB, layC]))
          (refine tkM 6 hG hS ?_; (try simp only [Act.put, layA, layB, layC]))
          (refine tkM 7 hG hS ?_; (try simp only [Act.put, layA, layB, layC]))
          refine callM hG (i := 8) (by simp only [List.getElem?_toArray, List.getElem?_cons_succ, List.getElem?_cons_zero] <;> rfl) (by kernel_rfl) (by rfl) (by rfl) (by intro W hW; have hSw := hS W hW; (try dsimp only at hSw); go_simp; (first | done | with_reducible rfl | exact ⟨rfl, rfl⟩)) ?_
          intro w4 b4
          have B4 : Below w.heap.size w w4 := (hS w4 b4).1
          have z4 := Below.size b4
          (try simp only [World.size_alloc, World.size_setCell, size_drew] at z4)
          have xk_ : Box w4 (w.heap.size) #[.int .i64 kI0, (.slice kA1 kn1 kc1)] 33 := (Box.b xk.drew b4)
          clear xk; have xk := xk_; clear xk_
          have xx_ : Box w4 (w.heap.size + 1) #[(.slice xA0 xn0 xc0), (.slice xA1 xn1 xc1), (.slice xA2 xn2 xc2), (.slice xA3 xn3 xc3), (.slice xA4 xn4 xc4), (.slice xA5 xn5 xc5)] 68 := (Box.b xx.drew b4)
          clear xx; have xx := xx_; clear xx_
          have xo_ : Box w4 (w.heap.size + 1 + 1) #[.int .i64 oI0, .int .i64 oI1] 73 := (Box.b xo.drew b4)
          clear xo; have xo := xo_; clear xo_
          have xr_ : Box w4 (w.heap.size + 1 + 1 + 1) #[.slice none 0 0, .slice none 0 0] 38 := (Box.b xr.drew b4)
          clear xr; have xr := xr_; clear xr_
          clear hS hG
          go_at_call 52
          refine (sAuthScale_L kI0 (RdL.b kH) kL1n (RdL.b (ls := [((.slice xA2 xn2 xc2), .ints xL2), ((.slice xA3 xn3 xc3), .ints xL3)]) (RdL.sub xH (by simp))) xL2n xL3n oI0).mono ?_
          rintro e w5 ⟨pA0, pn0, pc0, pA1, pn1, pc1, rfl, rp, b5⟩
          refine ⟨_, rfl, b5, fun hG => ?_⟩
          have z5 := Below.size b5
          have B5 : Below w.heap.size w w5 := Below.t b5
          have xk_ : Box w5 (w.heap.size) #[.int .i64 kI0, (.slice kA1 kn1 kc1)] 33 := (Box.b xk b5)
          clear xk; have xk := xk_; clear xk_
          have xx_ : Box w5 (w.heap.size + 1) #[(.slice xA0 xn0 xc0), (.slice xA1 xn1 xc1), (.slice xA2 xn2 xc2), (.slice xA3 xn3 xc3), (.slice xA4 xn4 xc4), (.slice xA5 xn5 xc5)] 68 := (Box.b xx b5)
          clear xx; have xx := xx_; clear xx_
          have xo_ : Box w5 (w.heap.size + 1 + 1) #[.int .i64 oI0, .int .i64 oI1] 73 := (Box.b xo b5)
          clear xo; have xo := xo_; clear xo_
          have xr_ : Box w5 (w.heap.size + 1 + 1 + 1) #[.slice none 0 0, .slice none 0 0] 38 := (Box.b xr b5)
          clear xr; have xr := xr_; clear xr_
          (try simp only [Act.put, layA, layB, layC])
          have hS : ∀ W, Later w5 W → (Below w.heap.size w W ∧ Below w5.heap.size w5 W ∧ W.cell? ⟨w.heap.size, 0, none⟩ = some (.int .i64 kI0) ∧ W.cell? ⟨w.heap.size, 1, none⟩ = some ((.slice kA1 kn1 kc1)) ∧ W.cell? ⟨w.heap.size + 1, 0, none⟩ = some ((.slice xA0 xn0 xc0)) ∧ W.cell? ⟨w.heap.size + 1, 1, none⟩ = some ((.slice xA1 xn1 xc1)) ∧ W.cell? ⟨w.heap.size + 1, 2, none⟩ = some ((.slice xA2 xn2 xc2)) ∧ W.cell? ⟨w.heap.size + 1, 3, none⟩ = some ((.slice xA3 xn3 xc3)) ∧ W.cell? ⟨w.heap.size + 1, 4, none⟩ = some ((.slice xA4 xn4 xc4)) ∧ W.cell? ⟨w.heap.size + 1, 5, none⟩ = some ((.slice xA5 xn5 xc5)) ∧ W.cell? ⟨w.heap.size + 1 + 1, 0, none⟩ = some (.int .i64 oI0) ∧ W.cell? ⟨w.heap.size + 1 + 1, 1, none⟩ = some (.int .i64 oI1)) := fun W hW => ⟨Below.trans (b := _) (by repeat (with_reducible (first | assumption | exact Below.refl _ _ | refine Below.alloc ?_ (by first | omega | (simp; done) | (simp; omega)) _ | refine Below.setCell ?_ (by first | omega | (simp; done) | (simp; omega)) _ | refine Below.drew ?_ | refine below_drewN ?_ _))) (Below.mono hW (by first | omega | (simp [size_drew]; done) | (simp [size_drew]; omega))), Below.trans (b := _) (by repeat (with_reducible (first | assumption | exact Below.refl _ _ | refine Below.alloc ?_ (by first | omega | (simp; done) | (simp; omega)) _ | refine Below.setCell ?_ (by first | omega | (simp; done) | (simp; omega)) _ | refine Below.drew ?_ | refine below_drewN ?_ _))) (Below.mono hW (by first | omega | (simp [size_drew]; done) | (simp [size_drew]; omega))), (Box.below xk hW (by first | omega | (simp [size_drew]; done) | (simp [size_drew]; omega))).two.1, (Box.below xk hW (by first | omega | (simp [size_drew]; done) | (simp [size_drew]; omega))).two.2.1, (Box.below xx hW (by first | omega | (simp [size_drew]; done) | (simp [size_drew]; omega))).six.1, (Box.below xx hW (by first | omega | (simp [size_drew]; done) | (simp [size_drew]; omega))).six.2.1, (Box.below xx hW (by first | omega | (simp [size_drew]; done) | (simp [size_drew]; omega))).six.2.2.1, (Box.below xx hW (by first | omega | (simp [size_drew]; done) | (simp [size_drew]; omega))).six.2.2.2.1, (Box.below xx hW (by first | omega | (simp [size_drew]; done) | (simp [size_drew]; omega))).six.2.2.2.2.1, (Box.below xx hW (by first | omega | (simp [size_drew]; done) | (simp [size_drew]; omega))).six.2.2.2.2.2.1, (Box.below xo hW (by first | omega | (simp [size_drew]; done) | (simp [size_drew]; omega))).two.1, (Box.below xo hW (by first | omega | (simp [size_drew]; done) | (simp [size_drew]; omega))).two.2.1⟩
          refine callM hG (i := 9) (by simp only [List.getElem?_toArray, List.getElem?_cons_succ, List.getElem?_cons_zero] <;> rfl) (by kernel_rfl) (by rfl) (by rfl) (by intro W hW; have hSw := hS W hW; (try dsimp only at hSw); go_simp; (first | done | with_reducible rfl | exact ⟨rfl, rfl⟩)) ?_
          intro w6 b6
          have B6 : Below w.heap.size w w6 := (hS w6 b6).1
          have z6 := Below.size b6
          (try simp only [World.size_alloc, World.size_setCell, size_drew] at z6)
          have rp_ := (rp.below b6)
          clear rp; have rp := rp_; clear rp_
          have xk_ : Box w6 (w.heap.size) #[.int .i64 kI0, (.slice kA1 kn1 kc1)] 33 := (Box.b xk b6)
          clear xk; have xk := xk_; clear xk_
          have xx_ : Box w6 (w.heap.size + 1) #[(.slice xA0 xn0 xc0), (.slice xA1 xn1 xc1), (.slice xA2 xn2 xc2), (.slice xA3 xn3 xc3), (.slice xA4 xn4 xc4), (.slice xA5 xn5 xc5)] 68 := (Box.b xx b6)
          clear xx; have xx := xx_; clear xx_
          have xo_ : Box w6 (w.heap.size + 1 + 1) #[.int .i64 oI0, .int .i64 oI1] 73 := (Box.b xo b6)
          clear xo; have xo := xo_; clear xo_
          have xr_ : Box w6 (w.heap.size + 1 + 1 + 1) #[.slice none 0 0, .slice none 0 0] 38 := (Box.b xr b6)
          clear xr; have xr := xr_; clear xr_
          clear hS hG
          go_at_call 56
          refine (sAuthAdd_L kI0 (RdL.b kH) kL1n (RdL.b (ls := [((.slice xA4 xn4 xc4), .ints xL4), ((.slice xA5 xn5 xc5), .ints xL5)]) (RdL.sub xH (by simp))) xL4n xL5n rp.rd (Nat.le_trans aScS_len xL2n) (Nat.le_trans aScM_len xL3n)).mono ?_
          rintro e w7 ⟨qA0, qn0, qc0, qA1, qn1, qc1, rfl, rq, b7⟩
          refine ⟨_, rfl, b7, fun hG => ?_⟩
          have z7 := Below.size b7
          have B7 : Below w.heap.size w w7 := Below.t b7
          have rp_ := (rp.below b7)
          clear rp; have rp := rp_; clear rp_
          have xk_ : Box w7 (w.heap.size) #[.int .i64 kI0, (.slice kA1 kn1 kc1)] 33 := (Box.b xk b7)
          clear xk; have xk := xk_; clear xk_
          have xx_ : Box w7 (w.heap.size + 1) #[(.slice xA0 xn0 xc0), (.slice xA1 xn1 xc1), (.slice xA2 xn2 xc2), (.slice xA3 xn3 xc3), (.slice xA4 xn4 xc4), (.slice xA5 xn5 xc5)] 68 := (Box.b xx b7)
          clear xx; have xx := xx_; clear xx_
          have xo_ : Box w7 (w.heap.size + 1 + 1) #[.int .i64 oI0, .int .i64 oI1] 73 := (Box.b xo b7)
          clear xo; have xo := xo_; clear xo_
          have xr_ : Box w7 (w.heap.size + 1 + 1 + 1) #[.slice none 0 0, .slice none 0 0] 38 := (Box.b xr b7)
          clear xr; have xr := xr_; clear xr_
          (try simp only [Act.put, layA, layB, layC])
          have hS : ∀ W, Later w7 W → (Below w.heap.size w W ∧ Below w7.heap.size w7 W ∧ W.cell? ⟨w.heap.size, 0, none⟩ = some (.int .i64 kI0) ∧ W.cell? ⟨w.heap.size, 1, none⟩ = some ((.slice kA1 kn1 kc1)) ∧ W.cell? ⟨w.heap.size + 1, 0, none⟩ = some ((.slice xA0 xn0 xc0)) ∧ W.cell? ⟨w.heap.size + 1, 1, none⟩ = some ((.slice xA1 xn1 xc1)) ∧ W.cell? ⟨w.heap.size + 1, 2, none⟩ = some ((.slice xA2 xn2 xc2)) ∧ W.cell? ⟨w.heap.size + 1, 3, none⟩ = some ((.slice xA3 xn3 xc3)) ∧ W.cell? ⟨w.heap.size + 1, 4, none⟩ = some ((.slice xA4 xn4 xc4)) ∧ W.cell? ⟨w.heap.size + 1, 5, none⟩ = some ((.slice xA5 xn5 xc5)) ∧ W.cell? ⟨w.heap.size + 1 + 1, 0, none⟩ = some (.int .i64 oI0) ∧ W.cell? ⟨w.heap.size + 1 + 1, 1, none⟩ = some (.int .i64 oI1)) := fun W hW => ⟨Below.trans (b := _) (by repeat (with_reducible (first | assumption | exact Below.refl _ _ | refine Below.alloc ?_ (by first | omega | (simp; done) | (simp; omega)) _ | refine Below.setCell ?_ (by first | omega | (simp; done) | (simp; omega)) _ | refine Below.drew ?_ | refine below_drewN ?_ _))) (Below.mono hW (by first | omega | (simp [size_drew]; done) | (simp [size_drew]; omega))), Below.trans (b := _) (by repeat (with_reducible (first | assumption | exact Below.refl _ _ | refine Below.alloc ?_ (by first | omega | (simp; done) | (simp; omega)) _ | refine Below.setCell ?_ (by first | omega | (simp; done) | (simp; omega)) _ | refine Below.drew ?_ | refine below_drewN ?_ _))) (Below.mono hW (by first | omega | (simp [size_drew]; done) | (simp [size_drew]; omega))), (Box.below xk hW (by first | omega | (simp [size_drew]; done) | (simp [size_drew]; omega))).two.1, (Box.below xk hW (by first | omega | (simp [size_drew]; done) | (simp [size_drew]; omega))).two.2.1, (Box.below xx hW (by first | omega | (simp [size_drew]; done) | (simp [size_drew]; omega))).six.1, (Box.below xx hW (by first | omega | (simp [size_drew]; done) | (simp [size_drew]; omega))).six.2.1, (Box.below xx hW (by first | omega | (simp [size_drew]; done) | (simp [size_drew]; omega))).six.2.2.1, (Box.below xx hW (by first | omega | (simp [size_drew]; done) | (simp [size_drew]; omega))).six.2.2.2.1, (Box.below xx hW (by first | omega | (simp [size_drew]; done) | (simp [size_drew]; omega))).six.2.2.2.2.1, (Box.below xx hW (by first | omega | (simp [size_drew]; done) | (simp [size_drew]; omega))).six.2.2.2.2.2.1, (Box.below xo hW (by first | omega | (simp [size_drew]; done) | (simp [size_drew]; omega))).two.1, (Box.below xo hW (by first | omega | (simp [size_drew]; done) | (simp [size_drew]; omega))).two.2.1⟩
          refine storeM (z := 11) (by simp only [List.getElem?_toArray, List.getElem?_cons_succ, List.getElem?_cons_zero] <;> rfl) (by kernel_rfl) (by rfl) (by rfl) ?_
          intro w8 b8
          have B8 : Below w.heap.size w w8 := (hS w8 b8).1
          have z8 := Below.size b8
          (try simp only [World.size_alloc, World.size_setCell, size_drew] at z8)
          have rp_ := (rp.below b8)
          clear rp; have rp := rp_; clear rp_
          have rq_ := (rq.below b8)
          clear rq; have rq := rq_; clear rq_
          have xk_ : Box w8 (w.heap.size) #[.int .i64 kI0, (.slice kA1 kn1 kc1)] 33 := (Box.b xk b8)
          clear xk; have xk := xk_; clear xk_
          have xx_ : Box w8 (w.heap.size + 1) #[(.slice xA0 xn0 xc0), (.slice xA1 xn1 xc1), (.slice xA2 xn2 xc2), (.slice xA3 xn3 xc3), (.slice xA4 xn4 xc4), (.slice xA5 xn5 xc5)] 68 := (Box.b xx b8)
          clear xx; have xx := xx_; clear xx_
          have xo_ : Box w8 (w.heap.size + 1 + 1) #[.int .i64 oI0, .int .i64 oI1] 73 := (Box.b xo b8)
          clear xo; have xo := xo_; clear xo_
          have xr_ : Box w8 (w.heap.size + 1 + 1 + 1) #[.slice none 0 0, .slice none 0 0] 38 := (Box.b xr b8)
          clear xr; have xr := xr_; clear xr_
          clear hS hG
          refine Zc.cons fun gxu xu nxu => ?_
          have nxu_0 := nxu (w6.heap.size, w7.heap.size) (by simp)
          dsimp only at nxu_0 xu
          have nxu_1 := nxu (w4.heap.size, w5.heap.size) (by simp)
          dsimp only at nxu_1 xu
          have nxu_2 := nxu (0, w3.heap.size) (by simp)
          dsimp only at nxu_2 xu
          clear nxu
          refine Zc.nil ?_
          (try unfold ptr)
          (try simp only [Act.put, layA, layB, layC])
          have lxu := xu.lt
          obtain ⟨cxu_0, cxu_1, fxu_0, fxu_1⟩ := xu.two
          refine ⟨_, by go_simp; (first | done | with_reducible rfl | exact ⟨rfl, rfl⟩), ?_⟩
          (try simp only [Act.put, layA, layB, layC])
          refine wpAny_done (by kernel_rfl) ?_ _
          clear cxu_0 cxu_1 fxu_0 fxu_1
          generalize hw9 : World.setCell _ _ _ = w9
          have z9 : w8.heap.size ≤ w9.heap.size := by rw [← hw9]; simp
          have B9 : Below w.heap.size w w9 := by rw [← hw9]; repeat (with_reducible (first | assumption | exact Below.refl _ _ | refine Below.alloc ?_ (by first | omega | (simp; done) | (simp; omega)) _ | refine Below.setCell ?_ (by first | omega | (simp; done) | (simp; omega)) _ | refine Below.drew ?_ | refine below_drewN ?_ _))
          have hK : ∀ k, k ≠ gxu → k < w8.heap.size → w9.heap[k]? = w8.heap[k]? := by
            intro k h0 _; rw [← hw9]
            repeat (first | rfl | refine (Below.heap_setCell _ _ _ _ (by first | exact h0)).trans ?_)
          have rp_ := rp.keepBlock z9 (fun k h1 h2 => hK k (by omega) (by have := rp.2.1; omega))
          clear rp; have rp := rp_; clear rp_
          have rq_ := rq.keepBlock z9 (fun k h1 h2 => hK k (by omega) (by have := rq.2.1; omega))
          clear rq; have rq := rq_; clear rq_
          have xk_ : Box w9 (w.heap.size) #[.int .i64 kI0, (.slice kA1 kn1 kc1)] 33 := (by rw [← hw9]; exact ((xk.far (by omega)).far (by omega)))
          clear xk; have xk := xk_; clear xk_
          have xx_ : Box w9 (w.heap.size + 1) #[(.slice xA0 xn0 xc0), (.slice xA1 xn1 xc1), (.slice xA2 xn2 xc2), (.slice xA3 xn3 xc3), (.slice xA4 xn4 xc4), (.slice xA5 xn5 xc5)] 68 := (by rw [← hw9]; exact ((xx.far (by omega)).far (by omega)))
          clear xx; have xx := xx_; clear xx_
          have xo_ : Box w9 (w.heap.size + 1 + 1) #[.int .i64 oI0, .int .i64 oI1] 73 := (by rw [← hw9]; exact ((xo.far (by omega)).far (by omega)))
          clear xo; have xo := xo_; clear xo_
          have xr_ : Box w9 (w.heap.size + 1 + 1 + 1) #[.slice none 0 0, .slice none 0 0] 38 := (by rw [← hw9]; exact ((xr.far (by omega)).far (by omega)))
          clear xr; have xr := xr_; clear xr_
          have xu_ : Box w9 (gxu) #[.slice qA0 qn0 qc0, .slice qA1 qn1 qc1] 38 := (by rw [← hw9]; exact ((xu.setAt (i := 0) (v := .slice qA0 qn0 qc0) (ds := #[.slice qA0 qn0 qc0, .slice none 0 0]) (by simp)).setAt (i := 1) (v := .slice qA1 qn1 qc1) (ds := #[.slice qA0 qn0 qc0, .slice qA1 qn1 qc1]) (by simp)))
          clear xu; have xu := xu_; clear xu_
          clear hw9 hK
          obtain ⟨cxk_0, cxk_1, fxk_0, fxk_1⟩ := xk.two
          have l_xk_0 : w.heap.size < w9.heap.size := by omega
          obtain ⟨cxx_0, cxx_1, cxx_2, cxx_3, cxx_4, cxx_5, fxx_0, fxx_1, fxx_2, fxx_3, fxx_4, fxx_5⟩ := xx.six
          have l_xx_0 : w.heap.size + 1 < w9.heap.size := by omega
          obtain ⟨cxo_0, cxo_1, fxo_0, fxo_1⟩ := xo.two
          have l_xo_0 : w.heap.size + 1 + 1 < w9.heap.size := by omega
          obtain ⟨cxu_0, cxu_1, fxu_0, fxu_1⟩ := xu.two
          have l_xu_0 : gxu < w9.heap.size := by omega
          go_wp2_with fail
          clear cxk_0 cxk_1 fxk_0 fxk_1 l_xk_0 cxx_0 cxx_1 cxx_2 cxx_3 cxx_4 cxx_5 fxx_0 fxx_1 fxx_2 fxx_3 fxx_4 fxx_5 l_xx_0 cxo_0 cxo_1 fxo_0 fxo_1 l_xo_0 cxu_0 cxu_1 fxu_0 fxu_1 l_xu_0
          refine wp_region_held_drew (S := fun W => W.cell? ⟨w.heap.size, 0, none⟩ = some (.int .i64 kI0) ∧ W.cell? ⟨w.heap.size, 1, none⟩ = some ((.slice kA1 kn1 kc1)) ∧ W.cell? ⟨w.heap.size + 1, 0, none⟩ = some ((.slice xA0 xn0 xc0)) ∧ W.cell? ⟨w.heap.size + 1, 1, none⟩ = some ((.slice xA1 xn1 xc1)) ∧ W.cell? ⟨w.heap.size + 1, 2, none⟩ = some ((.slice xA2 xn2 xc2)) ∧ W.cell? ⟨w.heap.size + 1, 3, none⟩ = some ((.slice xA3 xn3 xc3)) ∧ W.cell? ⟨w.heap.size + 1, 4, none⟩ = some ((.slice xA4 xn4 xc4)) ∧ W.cell? ⟨w.heap.size + 1, 5, none⟩ = some ((.slice xA5 xn5 xc5)) ∧ W.cell? ⟨w.heap.size + 1 + 1, 0, none⟩ = some (.int .i64 oI0) ∧ W.cell? ⟨w.heap.size + 1 + 1, 1, none⟩ = some (.int .i64 oI1) ∧ W.cell? ⟨gxu, 0, none⟩ = some (.slice qA0 qn0 qc0) ∧ W.cell? ⟨gxu, 1, none⟩ = some (.slice qA1 qn1 qc1)) (by kernel_rfl) ⟨xk.drew.two.1, xk.drew.two.2.1, xx.drew.six.1, xx.drew.six.2.1, xx.drew.six.2.2.1, xx.drew.six.2.2.2.1, xx.drew.six.2.2.2.2.1, xx.drew.six.2.2.2.2.2.1, xo.drew.two.1, xo.drew.two.2.1, xu.drew.two.1, xu.drew.two.2.1⟩ (fun hS => ?_)
          (refine tk 0 hS ?_; (try simp only [Act.put, layA, layB, layC]))
          (refine tk 1 hS ?_; (try simp only [Act.put, layA, layB, layC]))
          (refine tk 2 hS ?_; (try simp only [Act.put, layA, layB, layC]))
          (refine tk 3 hS ?_; (try simp only [Act.put, layA, layB, layC]))
          (refine tk 4 hS ?_; (try simp only [Act.put, layA, layB, layC]))
          (refine tk 5 hS ?_; (try simp only [Act.put, layA, layB, layC]))
          (refine tk 6 hS ?_; (try simp only [Act.put, layA, layB, layC]))
          (refine tk 7 hS ?_; (try simp only [Act.put, layA, layB, layC]))
          (refine tk 10 hS ?_; (try simp only [Act.put, layA, layB, layC]))
          (refine tk 11 hS ?_; (try simp only [Act.put, layA, layB, layC]))
          (refine tk 12 hS ?_; (try simp only [Act.put, layA, layB, layC]))
          (refine tk 13 hS ?_; (try simp only [Act.put, layA, layB, layC]))
          (refine tk 14 hS ?_; (try simp only [Act.put, layA, layB, layC]))
          (refine tk 15 hS ?_; (try simp only [Act.put, layA, layB, layC]))
          refine on 8 ?_
          refine callH (by go_simp; (first | done | with_reducible rfl | exact ⟨rfl, rfl⟩)) ?_
          go_at_call 52
          refine (sAuthScale_L kI0 (RdL.b kH) kL1n (RdL.b (ls := [((.slice xA0 xn0 xc0), .ints xL0), ((.slice xA1 xn1 xc1), .ints xL1)]) (RdL.sub xH (by simp))) xL0n xL1n oI1).mono ?_
          rintro e w10 ⟨mA0, mn0, mc0, mA1, mn1, mc1, rfl, rm, b10⟩
          clear hS
          have z10 := Below.size b10
          (try simp only [World.size_alloc, World.size_setCell, size_drew] at z10)
          have B10 : Below w.heap.size w w10 := Below.t b10
          have rq_ := (rq.drew.below b10)
          clear rq; have rq := rq_; clear rq_
          have xk_ : Box w10 (w.heap.size) #[.int .i64 kI0, (.slice kA1 kn1 kc1)] 33 := (Box.b xk.drew b10)
          clear xk; have xk := xk_; clear xk_
          have xx_ : Box w10 (w.heap.size + 1) #[(.slice xA0 xn0 xc0), (.slice xA1 xn1 xc1), (.slice xA2 xn2 xc2), (.slice xA3 xn3 xc3), (.slice xA4 xn4 xc4), (.slice xA5 xn5 xc5)] 68 := (Box.b xx.drew b10)
          clear xx; have xx := xx_; clear xx_
          have xo_ : Box w10 (w.heap.size + 1 + 1) #[.int .i64 oI0, .int .i64 oI1] 73 := (Box.b xo.drew b10)
          clear xo; have xo := xo_; clear xo_
          have xr_ : Box w10 (w.heap.size + 1 + 1 + 1) #[.slice none 0 0, .slice none 0 0] 38 := (Box.b xr.drew b10)
          clear xr; have xr := xr_; clear xr_
          have xu_ : Box w10 (gxu) #[.slice qA0 qn0 qc0, .slice qA1 qn1 qc1] 38 := (Box.b xu.drew b10)
          clear xu; have xu := xu_; clear xu_
          (try simp only [World.size_alloc, World.size_setCell, size_drew] at rm)
          refine ⟨_, rfl, ⟨xk.two.1, xk.two.2.1, xx.six.1, xx.six.2.1, xx.six.2.2.1, xx.six.2.2.2.1, xx.six.2.2.2.2.1, xx.six.2.2.2.2.2.1, xo.two.1, xo.two.2.1, xu.two.1, xu.two.2.1⟩, fun hS => ?_⟩
          (try simp only [Act.put, layA, layB, layC])
          refine on 9 ?_
          refine callH (by go_simp; (first | done | with_reducible rfl | exact ⟨rfl, rfl⟩)) ?_
          go_at_call 56
          refine (sAuthAdd_L kI0 (RdL.b kH) kL1n rq.rd (Nat.le_trans u1S_len xL4n) (Nat.le_trans u1M_len xL5n) rm.rd (Nat.le_trans aScS_len xL0n) (Nat.le_trans aScM_len xL1n)).mono ?_
          rintro e w11 ⟨hA0, hn0, hc0, hA1, hn1, hc1, rfl, rh, b11⟩
          clear hS
          have z11 := Below.size b11
          (try simp only [World.size_alloc, World.size_setCell, size_drew] at z11)
          have B11 : Below w.heap.size w w11 := Below.t b11
          have rq_ := (rq.below b11)
          clear rq; have rq := rq_; clear rq_
          have rm_ := (rm.below b11)
          clear rm; have rm := rm_; clear rm_
          have xk_ : Box w11 (w.heap.size) #[.int .i64 kI0, (.slice kA1 kn1 kc1)] 33 := (Box.b xk b11)
          clear xk; have xk := xk_; clear xk_
          have xx_ : Box w11 (w.heap.size + 1) #[(.slice xA0 xn0 xc0), (.slice xA1 xn1 xc1), (.slice xA2 xn2 xc2), (.slice xA3 xn3 xc3), (.slice xA4 xn4 xc4), (.slice xA5 xn5 xc5)] 68 := (Box.b xx b11)
          clear xx; have xx := xx_; clear xx_
          have xo_ : Box w11 (w.heap.size + 1 + 1) #[.int .i64 oI0, .int .i64 oI1] 73 := (Box.b xo b11)
          clear xo; have xo := xo_; clear xo_
          have xr_ : Box w11 (w.heap.size + 1 + 1 + 1) #[.slice none 0 0, .slice none 0 0] 38 := (Box.b xr b11)
          clear xr; have xr := xr_; clear xr_
          have xu_ : Box w11 (gxu) #[.slice qA0 qn0 qc0, .slice qA1 qn1 qc1] 38 := (Box.b xu b11)
          clear xu; have xu := xu_; clear xu_
          (try simp only [World.size_alloc, World.size_setCell, size_drew] at rh)
          refine ⟨_, rfl, ⟨xk.two.1, xk.two.2.1, xx.six.1, xx.six.2.1, xx.six.2.2.1, xx.six.2.2.2.1, xx.six.2.2.2.2.1, xx.six.2.2.2.2.2.1, xo.two.1, xo.two.2.1, xu.two.1, xu.two.2.1⟩, fun hS => ?_⟩
          (try simp only [Act.put, layA, layB, layC])
          refine on 16 ?_
          refine callH (by go_simp; (first | done | with_reducible rfl | exact ⟨rfl, rfl⟩)) ?_
          go_at_call 105
          refine (sFMul_any _ _ _ _).mono ?_
          rintro e w_ ⟨rfl, rfl⟩
          refine ⟨_, rfl, hS, fun hS => ?_⟩
          (try simp only [Act.put, layA, layB, layC])
          refine on 17 ?_
          refine callH (by go_simp; (first | done | with_reducible rfl | exact ⟨rfl, rfl⟩)) ?_
          go_at_call 74
          refine (sAuthConst_L kI0 (RdL.b kH) kL1n rh.rd (Nat.le_trans u2S_len xL4n) (Nat.le_trans u2M_len xL5n) _).mono ?_
          rintro e w12 ⟨vA0, vn0, vc0, vA1, vn1, vc1, rfl, rv, b12⟩
          clear hS
          have z12 := Below.size b12
          (try simp only [World.size_alloc, World.size_setCell, size_drew] at z12)
          have B12 : Below w.heap.size w w12 := Below.t b12
          have rq_ := (rq.below b12)
          clear rq; have rq := rq_; clear rq_
          have rm_ := (rm.below b12)
          clear rm; have rm := rm_; clear rm_
          have rh_ := (rh.below b12)
          clear rh; have rh := rh_; clear rh_
          have xk_ : Box w12 (w.heap.size) #[.int .i64 kI0, (.slice kA1 kn1 kc1)] 33 := (Box.b xk b12)
          clear xk; have xk := xk_; clear xk_
          have xx_ : Box w12 (w.heap.size + 1) #[(.slice xA0 xn0 xc0), (.slice xA1 xn1 xc1), (.slice xA2 xn2 xc2), (.slice xA3 xn3 xc3), (.slice xA4 xn4 xc4), (.slice xA5 xn5 xc5)] 68 := (Box.b xx b12)
          clear xx; have xx := xx_; clear xx_
          have xo_ : Box w12 (w.heap.size + 1 + 1) #[.int .i64 oI0, .int .i64 oI1] 73 := (Box.b xo b12)
          clear xo; have xo := xo_; clear xo_
          have xr_ : Box w12 (w.heap.size + 1 + 1 + 1) #[.slice none 0 0, .slice none 0 0] 38 := (Box.b xr b12)
          clear xr; have xr := xr_; clear xr_
          have xu_ : Box w12 (gxu) #[.slice qA0 qn0 qc0, .slice qA1 qn1 qc1] 38 := (Box.b xu b12)
          clear xu; have xu := xu_; clear xu_
          (try simp only [World.size_alloc, World.size_setCell, size_drew] at rv)
          refine ⟨_, rfl, ⟨xk.two.1, xk.two.2.1, xx.six.1, xx.six.2.1, xx.six.2.2.1, xx.six.2.2.2.1, xx.six.2.2.2.2.1, xx.six.2.2.2.2.2.1, xo.two.1, xo.two.2.1, xu.two.1, xu.two.2.1⟩, fun hS => ?_⟩
          (try simp only [Act.put, layA, layB, layC])
          refine on 18 ?_
          obtain ⟨cxr_0, cxr_1, fxr_0, fxr_1⟩ := xr.two
          refine skipH (by go_simp; (first | done | with_reducible rfl | exact ⟨rfl, rfl⟩)) ?_ (fun hS_ => ?_)
          · exact ⟨((xk.far (by omega)).far (by omega)).two.1, ((xk.far (by omega)).far (by omega)).two.2.1, ((xx.far (by omega)).far (by omega)).six.1, ((xx.far (by omega)).far (by omega)).six.2.1, ((xx.far (by omega)).far (by omega)).six.2.2.1, ((xx.far (by omega)).far (by omega)).six.2.2.2.1, ((xx.far (by omega)).far (by omega)).six.2.2.2.2.1, ((xx.far (by omega)).far (by omega)).six.2.2.2.2.2.1, ((xo.far (by omega)).far (by omega)).two.1, ((xo.far (by omega)).far (by omega)).two.2.1, ((xu.far (by omega)).far (by omega)).two.1, ((xu.far (by omega)).far (by omega)).two.2.1⟩
          clear cxr_0 cxr_1 fxr_0 fxr_1
          clear hS
          have hS := hS_
          clear hS_
          (try simp only [Act.put, layA, layB, layC])
          clear hS
          refine wpAnyH_done (by kernel_rfl) ?_ _
          obtain ⟨cxr_0, cxr_1, fxr_0, fxr_1⟩ := xr.two
          have l_xr_0 : w.heap.size + 1 + 1 + 1 < w12.heap.size := by omega
          go_wp2
          refine bodyPost_ret (v := .agg #[.slice vA0 vn0 vc0, .slice vA1 vn1 vc1]) ?_ rfl ⟨_, _, _, _, _, _, rfl, ?_, ?_⟩
          · simp [results, Try.results80, go_sem, cxr_0, cxr_1, fxr_0, fxr_1, l_xr_0]
          · have R := rv
            rw [uS_yes HO, uM_yes HO]; exact OwnL.mono ((R.setBox (by omega)).setBox (by omega)) (by omega) (by first | omega | (simp [size_drew]; done) | (simp [size_drew]; omega)) (Nat.le_refl _)
          · repeat (with_reducible (first | assumption | exact Below.refl _ _ | refine Below.alloc ?_ (by first | omega | (simp; done) | (simp; omega)) _ | refine Below.setCell ?_ (by first | omega | (simp; done) | (simp; omega)) _ | refine Below.drew ?_ | refine below_drewN ?_ _))
set_option maxRecDepth 100000 in
set_option maxHeartbeats 2000000 in
theorem iTripleUse_L {kA1 : Option Addr} {kn1 kc1 : Nat} {kL1 : List Int} {xA0 : Option Addr} {xn0 xc0 : Nat} {xL0 : List Int} {xA1 : Option Addr} {xn1 xc1 : Nat} {xL1 : List Int} {xA2 : Option Addr} {xn2 xc2 : Nat} {xL2 : List Int} {xA3 : Option Addr} {xn3 xc3 : Nat} {xL3 : List Int} {xA4 : Option Addr} {xn4 xc4 : Nat} {xL4 : List Int} {xA5 : Option Addr} {xn5 xc5 : Nat} {xL5 : List Int} {w : World} (kI0 : Int) (kH : RdL w [((.slice kA1 kn1 kc1), .ints kL1)]) (kL1n : kL1.length ≤ 1048576) (xH : RdL w [((.slice xA0 xn0 xc0), .ints xL0), ((.slice xA1 xn1 xc1), .ints xL1), ((.slice xA2 xn2 xc2), .ints xL2), ((.slice xA3 xn3 xc3), .ints xL3), ((.slice xA4 xn4 xc4), .ints xL4), ((.slice xA5 xn5 xc5), .ints xL5)]) (xL0n : xL0.length ≤ 1048576) (xL1n : xL1.length ≤ 1048576) (xL2n : xL2.length ≤ 1048576) (xL3n : xL3.length ≤ 1048576) (xL4n : xL4.length ≤ 1048576) (xL5n : xL5.length ≤ 1048576) (oI0 : Int) (oI1 : Int) :
    Calls Try.prog 82 #[.agg #[.int .i64 kI0, (.slice kA1 kn1 kc1)], .agg #[(.slice xA0 xn0 xc0), (.slice xA1 xn1 xc1), (.slice xA2 xn2 xc2), (.slice xA3 xn3 xc3), (.slice xA4 xn4 xc4), (.slice xA5 xn5 xc5)], .agg #[.int .i64 oI0, .int .i64 oI1]] w fun e w' => ∃ rA0 rn0 rc0 rA1 rn1 rc1, e = .returned (.agg #[.slice rA0 rn0 rc0, .slice rA1 rn1 rc1]) ∧ OwnL w' w.heap.size w'.heap.size [(.slice rA0 rn0 rc0, .ints (uS kI0 kL1 xL0 xL1 xL2 xL3 xL4 xL5 oI0 oI1)), (.slice rA1 rn1 rc1, .ints (uM kI0 kL1 xL0 xL1 xL2 xL3 xL4 xL5 oI0 oI1))] ∧ Below w.heap.size w w' := by
  have kL1i : Ints w kA1 kn1 kL1 := Rd.toInts (kH ((.slice kA1 kn1 kc1), .ints kL1) (by simp))
  have kL1l := Lib.hid kL1i.len
  have kL1m : kn1 ≤ 1048576 := by rw [← kL1l.out]; exact kL1n
  have xL0i : Ints w xA0 xn0 xL0 := Rd.toInts (xH ((.slice xA0 xn0 xc0), .ints xL0) (by simp))
  have xL0l := Lib.hid xL0i.len
  have xL0m : xn0 ≤ 1048576 := by rw [← xL0l.out]; exact xL0n
  have xL1i : Ints w xA1 xn1 xL1 := Rd.toInts (xH ((.slice xA1 xn1 xc1), .ints xL1) (by simp))
  have xL1l := Lib.hid xL1i.len
  have xL1m : xn1 ≤ 1048576 := by rw [← xL1l.out]; exact xL1n
  have xL2i : Ints w xA2 xn2 xL2 := Rd.toInts (xH ((.slice xA2 xn2 xc2), .ints xL2) (by simp))
  have xL2l := Lib.hid xL2i.len
  have xL2m : xn2 ≤ 1048576 := by rw [← xL2l.out]; exact xL2n
  have xL3i : Ints w xA3 xn3 xL3 := Rd.toInts (xH ((.slice xA3 xn3 xc3), .ints xL3) (by simp))
  have xL3l := Lib.hid xL3i.len
  have xL3m : xn3 ≤ 1048576 := by rw [← xL3l.out]; exact xL3n
  have xL4i : Ints w xA4 xn4 xL4 := Rd.toInts (xH ((.slice xA4 xn4 xc4), .ints xL4) (by simp))
  have xL4l := Lib.hid xL4i.len
  have xL4m : xn4 ≤ 1048576 := by rw [← xL4l.out]; exact xL4n
  have xL5i : Ints w xA5 xn5 xL5 := Rd.toInts (xH ((.slice xA5 xn5 xc5), .ints xL5) (by simp))
  have xL5l := Lib.hid xL5i.len
  have xL5m : xn5 ≤ 1048576 := by rw [← xL5l.out]; exact xL5n
  cases k1 : (formOk kI0 kL1 xL0 xL1 && formOk kI0 kL1 xL2 xL3 && formOk kI0 kL1 xL4 xL5) with
  | false =>
    have HO : uOk kI0 kL1 xL0 xL1 xL2 xL3 xL4 xL5 oI0 oI1 = false := by simp [uOk, k1]
    have k9 : isFormB kI0 kL1 [(xL0, xL1), (xL2, xL3), (xL4, xL5)] = false := by rw [isFormB3]; exact k1
    go_enter Try.func82, Try.ntmps82
    go_wp2_with fail
    refine (isForm_any kI0 (RdL.b kH) kL1n _ 3 _ [(xL0, xL1), (xL2, xL3), (xL4, xL5)] (AuthsAt.mk3 xL0i.b xL0m xL1i.b xL1m xL2i.b xL2m xL3i.b xL3m xL4i.b xL4m xL5i.b xL5m (by simp)) (by omega)).mono ?_
    rintro e w1 ⟨rfl, b1⟩
    have z1 := b1.size
    try simp only [World.size_alloc, World.size_setCell, size_drew] at z1
    have B1 : Below w.heap.size w w1 := Below.t b1
    have xk_ : Box w1 (w.heap.size) #[.int .i64 kI0, (.slice kA1 kn1 kc1)] 33 := (((((Box.new (g := w.heap.size) _ #[.int .i64 kI0, (.slice kA1 kn1 kc1)] 33 (by simp)).alloc _).alloc _).alloc _).alloc _).below b1 (by first | omega | (simp [size_drew]; done) | (simp [size_drew]; omega))
    have xk := xk_; clear xk_
    have xx_ : Box w1 (w.heap.size + 1) #[(.slice xA0 xn0 xc0), (.slice xA1 xn1 xc1), (.slice xA2 xn2 xc2), (.slice xA3 xn3 xc3), (.slice xA4 xn4 xc4), (.slice xA5 xn5 xc5)] 68 := ((((Box.new (g := w.heap.size + 1) _ #[(.slice xA0 xn0 xc0), (.slice xA1 xn1 xc1), (.slice xA2 xn2 xc2), (.slice xA3 xn3 xc3), (.slice xA4 xn4 xc4), (.slice xA5 xn5 xc5)] 68 (by simp)).alloc _).alloc _).alloc _).below b1 (by first | omega | (simp [size_drew]; done) | (simp [size_drew]; omega))
    have xx := xx_; clear xx_
    have xo_ : Box w1 (w.heap.size + 1 + 1) #[.int .i64 oI0, .int .i64 oI1] 73 := (((Box.new (g := w.heap.size + 1 + 1) _ #[.int .i64 oI0, .int .i64 oI1] 73 (by simp)).alloc _).alloc _).below b1 (by first | omega | (simp [size_drew]; done) | (simp [size_drew]; omega))
    have xo := xo_; clear xo_
    have xr_ : Box w1 (w.heap.size + 1 + 1 + 1) #[.slice none 0 0, .slice none 0 0] 38 := ((Box.new (g := w.heap.size + 1 + 1 + 1) _ #[.slice none 0 0, .slice none 0 0] 38 (by simp)).alloc _).below b1 (by first | omega | (simp [size_drew]; done) | (simp [size_drew]; omega))
    have xr := xr_; clear xr_
    have xlit_ : Box w1 (w.heap.size + 1 + 1 + 1 + 1) #[(.slice xA0 xn0 xc0), (.slice xA1 xn1 xc1), (.slice xA2 xn2 xc2), (.slice xA3 xn3 xc3), (.slice xA4 xn4 xc4), (.slice xA5 xn5 xc5)] 38 := (Box.new (g := w.heap.size + 1 + 1 + 1 + 1) _ #[(.slice xA0 xn0 xc0), (.slice xA1 xn1 xc1), (.slice xA2 xn2 xc2), (.slice xA3 xn3 xc3), (.slice xA4 xn4 xc4), (.slice xA5 xn5 xc5)] 38 (by simp)).below b1 (by first | omega | (simp [size_drew]; done) | (simp [size_drew]; omega))
    have xlit := xlit_; clear xlit_
    obtain ⟨cxr_0, cxr_1, fxr_0, fxr_1⟩ := xr.two
    have l_xr_0 : w.heap.size + 1 + 1 + 1 < w1.heap.size := by omega
    go_wp2
    refine bodyPost_ret (v := .agg #[.slice none 0 0, .slice none 0 0]) ?_ rfl ⟨_, _, _, _, _, _, rfl, ?_, ?_⟩
    · simp [results, Try.results82, go_sem, cxr_0, cxr_1, fxr_0, fxr_1, l_xr_0]
    · rw [uS_no HO, uM_no HO]; exact OwnL.nones _ (by simp) (by first | omega | (simp [size_drew]; done) | (simp [size_drew]; omega))
    · repeat (with_reducible (first | assumption | exact Below.refl _ _ | refine Below.alloc ?_ (by first | omega | (simp; done) | (simp; omega)) _ | refine Below.setCell ?_ (by first | omega | (simp; done) | (simp; omega)) _ | refine Below.drew ?_ | refine below_drewN ?_ _))
  | true =>
    cases k2 : (elem kI0 oI0 && elem kI0 oI1) with
    | false =>
      have HO : uOk kI0 kL1 xL0 xL1 xL2 xL3 xL4 xL5 oI0 oI1 = false := by simp [uOk, k1, k2]
      have k9 : isFormB kI0 kL1 [(xL0, xL1), (xL2, xL3), (xL4, xL5)] = true := by rw [isFormB3]; exact k1
      have k8 : allEl kI0 [oI0, oI1] = false := by rw [allEl_two]; exact k2
      go_enter Try.func82, Try.ntmps82
      go_wp2_with fail
      refine (isForm_any kI0 (RdL.b kH) kL1n _ 3 _ [(xL0, xL1), (xL2, xL3), (xL4, xL5)] (AuthsAt.mk3 xL0i.b xL0m xL1i.b xL1m xL2i.b xL2m xL3i.b xL3m xL4i.b xL4m xL5i.b xL5m (by simp)) (by omega)).mono ?_
      rintro e w1 ⟨rfl, b1⟩
      have z1 := b1.size
      try simp only [World.size_alloc, World.size_setCell, size_drew] at z1
      have B1 : Below w.heap.size w w1 := Below.t b1
      have xk_ : Box w1 (w.heap.size) #[.int .i64 kI0, (.slice kA1 kn1 kc1)] 33 := (((((Box.new (g := w.heap.size) _ #[.int .i64 kI0, (.slice kA1 kn1 kc1)] 33 (by simp)).alloc _).alloc _).alloc _).alloc _).below b1 (by first | omega | (simp [size_drew]; done) | (simp [size_drew]; omega))
      have xk := xk_; clear xk_
      have xx_ : Box w1 (w.heap.size + 1) #[(.slice xA0 xn0 xc0), (.slice xA1 xn1 xc1), (.slice xA2 xn2 xc2), (.slice xA3 xn3 xc3), (.slice xA4 xn4 xc4), (.slice xA5 xn5 xc5)] 68 := ((((Box.new (g := w.heap.size + 1) _ #[(.slice xA0 xn0 xc0), (.slice xA1 xn1 xc1), (.slice xA2 xn2 xc2), (.slice xA3 xn3 xc3), (.slice xA4 xn4 xc4), (.slice xA5 xn5 xc5)] 68 (by simp)).alloc _).alloc _).alloc _).below b1 (by first | omega | (simp [size_drew]; done) | (simp [size_drew]; omega))
      have xx := xx_; clear xx_
      have xo_ : Box w1 (w.heap.size + 1 + 1) #[.int .i64 oI0, .int .i64 oI1] 73 := (((Box.new (g := w.heap.size + 1 + 1) _ #[.int .i64 oI0, .int .i64 oI1] 73 (by simp)).alloc _).alloc _).below b1 (by first | omega | (simp [size_drew]; done) | (simp [size_drew]; omega))
      have xo := xo_; clear xo_
      have xr_ : Box w1 (w.heap.size + 1 + 1 + 1) #[.slice none 0 0, .slice none 0 0] 38 := ((Box.new (g := w.heap.size + 1 + 1 + 1) _ #[.slice none 0 0, .slice none 0 0] 38 (by simp)).alloc _).below b1 (by first | omega | (simp [size_drew]; done) | (simp [size_drew]; omega))
      have xr := xr_; clear xr_
      have xlit_ : Box w1 (w.heap.size + 1 + 1 + 1 + 1) #[(.slice xA0 xn0 xc0), (.slice xA1 xn1 xc1), (.slice xA2 xn2 xc2), (.slice xA3 xn3 xc3), (.slice xA4 xn4 xc4), (.slice xA5 xn5 xc5)] 38 := (Box.new (g := w.heap.size + 1 + 1 + 1 + 1) _ #[(.slice xA0 xn0 xc0), (.slice xA1 xn1 xc1), (.slice xA2 xn2 xc2), (.slice xA3 xn3 xc3), (.slice xA4 xn4 xc4), (.slice xA5 xn5 xc5)] 38 (by simp)).below b1 (by first | omega | (simp [size_drew]; done) | (simp [size_drew]; omega))
      have xlit := xlit_; clear xlit_
      obtain ⟨cxk_0, cxk_1, fxk_0, fxk_1⟩ := xk.two
      have l_xk_0 : w.heap.size < w1.heap.size := by omega
      obtain ⟨cxo_0, cxo_1, fxo_0, fxo_1⟩ := xo.two
      have l_xo_0 : w.heap.size + 1 + 1 < w1.heap.size := by omega
      go_wp2_with fail
      clear cxk_0 cxk_1 fxk_0 fxk_1 l_xk_0 cxo_0 cxo_1 fxo_0 fxo_1 l_xo_0
      have Li := Ints.new (g := w1.heap.size) w1 [oI0, oI1] 3 rfl rfl
      refine (areElements_any _ _ 2 _ [oI0, oI1] _ Li (by omega)).mono ?_
      rintro e w_ ⟨rfl, rfl⟩
      obtain ⟨cxr_0, cxr_1, fxr_0, fxr_1⟩ := xr.two
      have l_xr_0 : w.heap.size + 1 + 1 + 1 < w1.heap.size := by omega
      have l_xr_1 : w.heap.size + 1 + 1 + 1 < w1.heap.size + 1 := by omega
      go_wp2
      refine bodyPost_ret (v := .agg #[.slice none 0 0, .slice none 0 0]) ?_ rfl ⟨_, _, _, _, _, _, rfl, ?_, ?_⟩
      · simp [results, Try.results82, go_sem, cxr_0, cxr_1, fxr_0, fxr_1, l_xr_0, l_xr_1]
      · rw [uS_no HO, uM_no HO]; exact OwnL.nones _ (by simp) (by first | omega | (simp [size_drew]; done) | (simp [size_drew]; omega))
      · repeat (with_reducible (first | assumption | exact Below.refl _ _ | refine Below.alloc ?_ (by first | omega | (simp; done) | (simp; omega)) _ | refine Below.setCell ?_ (by first | omega | (simp; done) | (simp; omega)) _ | refine Below.drew ?_ | refine below_drewN ?_ _))
    | true =>
      have HO : uOk kI0 kL1 xL0 xL1 xL2 xL3 xL4 xL5 oI0 oI1 = true := by simp [uOk, k1, k2]
      have k9 : isFormB kI0 kL1 [(xL0, xL1), (xL2, xL3), (xL4, xL5)] = true := by rw [isFormB3]; exact k1
      have k8 : allEl kI0 [oI0, oI1] = true := by rw [allEl_two]; exact k2
      go_enter Try.func82, Try.ntmps82
      go_wp2_with fail
      refine (isForm_any kI0 (RdL.b kH) kL1n _ 3 _ [(xL0, xL1), (xL2, xL3), (xL4, xL5)] (AuthsAt.mk3 xL0i.b xL0m xL1i.b xL1m xL2i.b xL2m xL3i.b xL3m xL4i.b xL4m xL5i.b xL5m (by simp)) (by omega)).mono ?_
      rintro e w1 ⟨rfl, b1⟩
      have z1 := b1.size
      try simp only [World.size_alloc, World.size_setCell, size_drew] at z1
      have B1 : Below w.heap.size w w1 := Below.t b1
      have xk_ : Box w1 (w.heap.size) #[.int .i64 kI0, (.slice kA1 kn1 kc1)] 33 := (((((Box.new (g := w.heap.size) _ #[.int .i64 kI0, (.slice kA1 kn1 kc1)] 33 (by simp)).alloc _).alloc _).alloc _).alloc _).below b1 (by first | omega | (simp [size_drew]; done) | (simp [size_drew]; omega))
      have xk := xk_; clear xk_
      have xx_ : Box w1 (w.heap.size + 1) #[(.slice xA0 xn0 xc0), (.slice xA1 xn1 xc1), (.slice xA2 xn2 xc2), (.slice xA3 xn3 xc3), (.slice xA4 xn4 xc4), (.slice xA5 xn5 xc5)] 68 := ((((Box.new (g := w.heap.size + 1) _ #[(.slice xA0 xn0 xc0), (.slice xA1 xn1 xc1), (.slice xA2 xn2 xc2), (.slice xA3 xn3 xc3), (.slice xA4 xn4 xc4), (.slice xA5 xn5 xc5)] 68 (by simp)).alloc _).alloc _).alloc _).below b1 (by first | omega | (simp [size_drew]; done) | (simp [size_drew]; omega))
      have xx := xx_; clear xx_
      have xo_ : Box w1 (w.heap.size + 1 + 1) #[.int .i64 oI0, .int .i64 oI1] 73 := (((Box.new (g := w.heap.size + 1 + 1) _ #[.int .i64 oI0, .int .i64 oI1] 73 (by simp)).alloc _).alloc _).below b1 (by first | omega | (simp [size_drew]; done) | (simp [size_drew]; omega))
      have xo := xo_; clear xo_
      have xr_ : Box w1 (w.heap.size + 1 + 1 + 1) #[.slice none 0 0, .slice none 0 0] 38 := ((Box.new (g := w.heap.size + 1 + 1 + 1) _ #[.slice none 0 0, .slice none 0 0] 38 (by simp)).alloc _).below b1 (by first | omega | (simp [size_drew]; done) | (simp [size_drew]; omega))
      have xr := xr_; clear xr_
      have xlit_ : Box w1 (w.heap.size + 1 + 1 + 1 + 1) #[(.slice xA0 xn0 xc0), (.slice xA1 xn1 xc1), (.slice xA2 xn2 xc2), (.slice xA3 xn3 xc3), (.slice xA4 xn4 xc4), (.slice xA5 xn5 xc5)] 38 := (Box.new (g := w.heap.size + 1 + 1 + 1 + 1) _ #[(.slice xA0 xn0 xc0), (.slice xA1 xn1 xc1), (.slice xA2 xn2 xc2), (.slice xA3 xn3 xc3), (.slice xA4 xn4 xc4), (.slice xA5 xn5 xc5)] 38 (by simp)).below b1 (by first | omega | (simp [size_drew]; done) | (simp [size_drew]; omega))
      have xlit := xlit_; clear xlit_
      obtain ⟨cxk_0, cxk_1, fxk_0, fxk_1⟩ := xk.two
      have l_xk_0 : w.heap.size < w1.heap.size := by omega
      obtain ⟨cxo_0, cxo_1, fxo_0, fxo_1⟩ := xo.two
      have l_xo_0 : w.heap.size + 1 + 1 < w1.heap.size := by omega
      go_wp2_with fail
      clear cxk_0 cxk_1 fxk_0 fxk_1 l_xk_0 cxo_0 cxo_1 fxo_0 fxo_1 l_xo_0
      have Li := Ints.new (g := w1.heap.size) w1 [oI0, oI1] 3 rfl rfl
      refine (areElements_any _ _ 2 _ [oI0, oI1] _ Li (by omega)).mono ?_
      rintro e w_ ⟨rfl, rfl⟩
      obtain ⟨cxk_0, cxk_1, fxk_0, fxk_1⟩ := xk.two
      have l_xk_0 : w.heap.size < w1.heap.size := by omega
      have l_xk_1 : w.heap.size < w1.heap.size + 1 := by omega
      obtain ⟨cxx_0, cxx_1, cxx_2, cxx_3, cxx_4, cxx_5, fxx_0, fxx_1, fxx_2, fxx_3, fxx_4, fxx_5⟩ := xx.six
      have l_xx_0 : w.heap.size + 1 < w1.heap.size := by omega
      have l_xx_1 : w.heap.size + 1 < w1.heap.size + 1 := by omega
      obtain ⟨cxo_0, cxo_1, fxo_0, fxo_1⟩ := xo.two
      have l_xo_0 : w.heap.size + 1 + 1 < w1.heap.size := by omega
      have l_xo_1 : w.heap.size + 1 + 1 < w1.heap.size + 1 := by omega
      go_wp2_with fail
      clear cxk_0 cxk_1 fxk_0 fxk_1 l_xk_0 l_xk_1 cxx_0 cxx_1 cxx_2 cxx_3 cxx_4 cxx_5 fxx_0 fxx_1 fxx_2 fxx_3 fxx_4 fxx_5 l_xx_0 l_xx_1 cxo_0 cxo_1 fxo_0 fxo_1 l_xo_0 l_xo_1
      generalize hw2 : World.alloc _ _ = w2
      have z2 : w1.heap.size + 1 ≤ w2.heap.size := by rw [← hw2]; simp
      have B2 : Below w.heap.size w w2 := by rw [← hw2]; repeat (with_reducible (first | assumption | exact Below.refl _ _ | refine Below.alloc ?_ (by first | omega | (simp; done) | (simp; omega)) _ | refine Below.setCell ?_ (by first | omega | (simp; done) | (simp; omega)) _ | refine Below.drew ?_ | refine below_drewN ?_ _))
      have xk_ : Box w2 (w.heap.size) #[.int .i64 kI0, (.slice kA1 kn1 kc1)] 33 := (by rw [← hw2]; exact (xk.alloc _))
      clear xk; have xk := xk_; clear xk_
      have xx_ : Box w2 (w.heap.size + 1) #[(.slice xA0 xn0 xc0), (.slice xA1 xn1 xc1), (.slice xA2 xn2 xc2), (.slice xA3 xn3 xc3), (.slice xA4 xn4 xc4), (.slice xA5 xn5 xc5)] 68 := (by rw [← hw2]; exact (xx.alloc _))
      clear xx; have xx := xx_; clear xx_
      have xo_ : Box w2 (w.heap.size + 1 + 1) #[.int .i64 oI0, .int .i64 oI1] 73 := (by rw [← hw2]; exact (xo.alloc _))
      clear xo; have xo := xo_; clear xo_
      have xr_ : Box w2 (w.heap.size + 1 + 1 + 1) #[.slice none 0 0, .slice none 0 0] 38 := (by rw [← hw2]; exact (xr.alloc _))
      clear xr; have xr := xr_; clear xr_
      have xl2_ : Box w2 (w1.heap.size) #[.int .i64 oI0, .int .i64 oI1] 3 := (by rw [← hw2]; exact (Box.new (g := w1.heap.size) _ #[.int .i64 oI0, .int .i64 oI1] 3 (by simp)))
      have xl2 := xl2_; clear xl2_
      clear hw2
      obtain ⟨cxk_0, cxk_1, fxk_0, fxk_1⟩ := xk.two
      have l_xk_0 : w.heap.size < w2.heap.size := by omega
      obtain ⟨cxx_0, cxx_1, cxx_2, cxx_3, cxx_4, cxx_5, fxx_0, fxx_1, fxx_2, fxx_3, fxx_4, fxx_5⟩ := xx.six
      have l_xx_0 : w.heap.size + 1 < w2.heap.size := by omega
      obtain ⟨cxo_0, cxo_1, fxo_0, fxo_1⟩ := xo.two
      have l_xo_0 : w.heap.size + 1 + 1 < w2.heap.size := by omega
      go_wp2_with fail
      clear cxk_0 cxk_1 fxk_0 fxk_1 l_xk_0 cxx_0 cxx_1 cxx_2 cxx_3 cxx_4 cxx_5 fxx_0 fxx_1 fxx_2 fxx_3 fxx_4 fxx_5 l_xx_0 cxo_0 cxo_1 fxo_0 fxo_1 l_xo_0
      refine wp_region_M [11] (w2.heap.size) 12 (S := fun W => Below w.heap.size w W ∧ Below w2.heap.size w2 W ∧ W.cell? ⟨w.heap.size, 0, none⟩ = some (.int .i64 kI0) ∧ W.cell? ⟨w.heap.size, 1, none⟩ = some ((.slice kA1 kn1 kc1)) ∧ W.cell? ⟨w.heap.size + 1, 0, none⟩ = some ((.slice xA0 xn0 xc0)) ∧ W.cell? ⟨w.heap.size + 1, 1, none⟩ = some ((.slice xA1 xn1 xc1)) ∧ W.cell? ⟨w.heap.size + 1, 2, none⟩ = some ((.slice xA2 xn2 xc2)) ∧ W.cell? ⟨w.heap.size + 1, 3, none⟩ = some ((.slice xA3 xn3 xc3)) ∧ W.cell? ⟨w.heap.size + 1, 4, none⟩ = some ((.slice xA4 xn4 xc4)) ∧ W.cell? ⟨w.heap.size + 1, 5, none⟩ = some ((.slice xA5 xn5 xc5)) ∧ W.cell? ⟨w.heap.size + 1 + 1, 0, none⟩ = some (.int .i64 oI0) ∧ W.cell? ⟨w.heap.size + 1 + 1, 1, none⟩ = some (.int .i64 oI1)) (by kernel_rfl) (by rfl) (fun W hW => ⟨Below.trans (b := _) (by repeat (with_reducible (first | assumption | exact Below.refl _ _ | refine Below.alloc ?_ (by first | omega | (simp; done) | (simp; omega)) _ | refine Below.setCell ?_ (by first | omega | (simp; done) | (simp; omega)) _ | refine Below.drew ?_ | refine below_drewN ?_ _))) (Below.mono hW (by first | omega | (simp [size_drew]; done) | (simp [size_drew]; omega))), Below.trans (b := _) (by repeat (with_reducible (first | assumption | exact Below.refl _ _ | refine Below.alloc ?_ (by first | omega | (simp; done) | (simp; omega)) _ | refine Below.setCell ?_ (by first | omega | (simp; done) | (simp; omega)) _ | refine Below.drew ?_ | refine below_drewN ?_ _))) (Below.mono hW (by first | omega | (simp [size_drew]; done) | (simp [size_drew]; omega))), (Box.below xk.drew hW (by first | omega | (simp [size_drew]; done) | (simp [size_drew]; omega))).two.1, (Box.below xk.drew hW (by first | omega | (simp [size_drew]; done) | (simp [size_drew]; omega))).two.2.1, (Box.below xx.drew hW (by first | omega | (simp [size_drew]; done) | (simp [size_drew]; omega))).six.1, (Box.below xx.drew hW (by first | omega | (simp [size_drew]; done) | (simp [size_drew]; omega))).six.2.1, (Box.below xx.drew hW (by first | omega | (simp [size_drew]; done) | (simp [size_drew]; omega))).six.2.2.1, (Box.below xx.drew hW (by first | omega | (simp [size_drew]; done) | (simp [size_drew]; omega))).six.2.2.2.1, (Box.below xx.drew hW (by first | omega | (simp [size_drew]; done) | (simp [size_drew]; omega))).six.2.2.2.2.1, (Box.below xx.drew hW (by first | omega | (simp [size_drew]; done) | (simp [size_drew]; omega))).six.2.2.2.2.2.1, (Box.below xo.drew hW (by first | omega | (simp [size_drew]; done) | (simp [size_drew]; omega))).two.1, (Box.below xo.drew hW (by first | omega | (simp [size_drew]; done) | (simp [size_drew]; omega))).two.2.1⟩) (by first | omega | (simp [size_drew]; done) | (simp [size_drew]; omega)) (fun hS hG => ?_)
      (try dsimp only at hS)
      refine pendM 10 7 #[.slice none 0 0, .slice none 0 0] 38 (by simp only [List.getElem?_toArray, List.getElem?_cons_succ, List.getElem?_cons_zero] <;> rfl) (by kernel_rfl) (by exact fun _ _ _ _ h => h) (by intro a W; unfold ptr; go_simp; (first | done | rfl)) hG ?_
      (refine tkM 0 hG hS ?_; (try simp only [Act.put, layA, layB, layC]))
      (refine tkM 1 hG hS ?_; (try simp only [Act.put, layA, layB, layC]))
      (refine tkM 2 hG hS ?_; (try simp only [Act.put, layA, layB, layC]))
      (refine tkM 3 hG hS ?_; (try simp only [Act.put, layA, layB, layC]))
      (refine tkM 4 hG hS ?_; (try simp only [Act.put, layA, layB, layC]))
      (refine tkM 5 hG hS ?_; (try simp only [Act.put, layA, layB, layC]))
      (refine tkM 6 hG hS ?_; (try simp only [Act.put, layA, layB, layC]))
      (refine tkM 7 hG hS ?_; (try simp only [Act.put, layA, layB, layC]))
      refine callM hG (i := 8) (by simp only [List.getElem?_toArray, List.getElem?_cons_succ, List.getElem?_cons_zero] <;> rfl) (by kernel_rfl) (by rfl) (by rfl) (by intro W hW; have hSw := hS W hW; (try dsimp only at hSw); go_simp; (first | done | with_reducible rfl | exact ⟨rfl, rfl⟩)) ?_
      intro w3 b3
      have B3 : Below w.heap.size w w3 := (hS w3 b3).1
      have z3 := Below.size b3
      (try simp only [World.size_alloc, World.size_setCell, size_drew] at z3)
      have xk_ : Box w3 (w.heap.size) #[.int .i64 kI0, (.slice kA1 kn1 kc1)] 33 := (Box.b xk.drew b3)
      clear xk; have xk := xk_; clear xk_
      have xx_ : Box w3 (w.heap.size + 1) #[(.slice xA0 xn0 xc0), (.slice xA1 xn1 xc1), (.slice xA2 xn2 xc2), (.slice xA3 xn3 xc3), (.slice xA4 xn4 xc4), (.slice xA5 xn5 xc5)] 68 := (Box.b xx.drew b3)
      clear xx; have xx := xx_; clear xx_
      have xo_ : Box w3 (w.heap.size + 1 + 1) #[.int .i64 oI0, .int .i64 oI1] 73 := (Box.b xo.drew b3)
      clear xo; have xo := xo_; clear xo_
      have xr_ : Box w3 (w.heap.size + 1 + 1 + 1) #[.slice none 0 0, .slice none 0 0] 38 := (Box.b xr.drew b3)
      clear xr; have xr := xr_; clear xr_
      clear hS hG
      go_at_call 53
      refine (iAuthScale_L kI0 (RdL.b kH) kL1n (RdL.b (ls := [((.slice xA2 xn2 xc2), .ints xL2), ((.slice xA3 xn3 xc3), .ints xL3)]) (RdL.sub xH (by simp))) xL2n xL3n oI0).mono ?_
      rintro e w4 ⟨pA0, pn0, pc0, pA1, pn1, pc1, rfl, rp, b4⟩
      refine ⟨_, rfl, b4, fun hG => ?_⟩
      have z4 := Below.size b4
      have B4 : Below w.heap.size w w4 := Below.t b4
      have xk_ : Box w4 (w.heap.size) #[.int .i64 kI0, (.slice kA1 kn1 kc1)] 33 := (Box.b xk b4)
      clear xk; have xk := xk_; clear xk_
      have xx_ : Box w4 (w.heap.size + 1) #[(.slice xA0 xn0 xc0), (.slice xA1 xn1 xc1), (.slice xA2 xn2 xc2), (.slice xA3 xn3 xc3), (.slice xA4 xn4 xc4), (.slice xA5 xn5 xc5)] 68 := (Box.b xx b4)
      clear xx; have xx := xx_; clear xx_
      have xo_ : Box w4 (w.heap.size + 1 + 1) #[.int .i64 oI0, .int .i64 oI1] 73 := (Box.b xo b4)
      clear xo; have xo := xo_; clear xo_
      have xr_ : Box w4 (w.heap.size + 1 + 1 + 1) #[.slice none 0 0, .slice none 0 0] 38 := (Box.b xr b4)
      clear xr; have xr := xr_; clear xr_
      (try simp only [Act.put, layA, layB, layC])
      have hS : ∀ W, Later w4 W → (Below w.heap.size w W ∧ Below w4.heap.size w4 W ∧ W.cell? ⟨w.heap.size, 0, none⟩ = some (.int .i64 kI0) ∧ W.cell? ⟨w.heap.size, 1, none⟩ = some ((.slice kA1 kn1 kc1)) ∧ W.cell? ⟨w.heap.size + 1, 0, none⟩ = some ((.slice xA0 xn0 xc0)) ∧ W.cell? ⟨w.heap.size + 1, 1, none⟩ = some ((.slice xA1 xn1 xc1)) ∧ W.cell? ⟨w.heap.size + 1, 2, none⟩ = some ((.slice xA2 xn2 xc2)) ∧ W.cell? ⟨w.heap.size + 1, 3, none⟩ = some ((.slice xA3 xn3 xc3)) ∧ W.cell? ⟨w.heap.size + 1, 4, none⟩ = some ((.slice xA4 xn4 xc4)) ∧ W.cell? ⟨w.heap.size + 1, 5, none⟩ = some ((.slice xA5 xn5 xc5)) ∧ W.cell? ⟨w.heap.size + 1 + 1, 0, none⟩ = some (.int .i64 oI0) ∧ W.cell? ⟨w.heap.size + 1 + 1, 1, none⟩ = some (.int .i64 oI1)) := fun W hW => ⟨Below.trans (b := _) (by repeat (with_reducible (first | assumption | exact Below.refl _ _ | refine Below.alloc ?_ (by first | omega | (simp; done) | (simp; omega)) _ | refine Below.setCell ?_ (by first | omega | (simp; done) | (simp; omega)) _ | refine Below.drew ?_ | refine below_drewN ?_ _))) (Below.mono hW (by first | omega | (simp [size_drew]; done) | (simp [size_drew]; omega))), Below.trans (b := _) (by repeat (with_reducible (first | assumption | exact Below.refl _ _ | refine Below.alloc ?_ (by first | omega | (simp; done) | (simp; omega)) _ | refine Below.setCell ?_ (by first | omega | (simp; done) | (simp; omega)) _ | refine Below.drew ?_ | refine below_drewN ?_ _))) (Below.mono hW (by first | omega | (simp [size_drew]; done) | (simp [size_drew]; omega))), (Box.below xk hW (by first | omega | (simp [size_drew]; done) | (simp [size_drew]; omega))).two.1, (Box.below xk hW (by first | omega | (simp [size_drew]; done) | (simp [size_drew]; omega))).two.2.1, (Box.below xx hW (by first | omega | (simp [size_drew]; done) | (simp [size_drew]; omega))).six.1, (Box.below xx hW (by first | omega | (simp [size_drew]; done) | (simp [size_drew]; omega))).six.2.1, (Box.below xx hW (by first | omega | (simp [size_drew]; done) | (simp [size_drew]; omega))).six.2.2.1, (Box.below xx hW (by first | omega | (simp [size_drew]; done) | (simp [size_drew]; omega))).six.2.2.2.1, (Box.below xx hW (by first | omega | (simp [size_drew]; done) | (simp [size_drew]; omega))).six.2.2.2.2.1, (Box.below xx hW (by first | omega | (simp [size_drew]; done) | (simp [size_drew]; omega))).six.2.2.2.2.2.1, (Box.below xo hW (by first | omega | (simp [size_drew]; done) | (simp [size_drew]; omega))).two.1, (Box.below xo hW (by first | omega | (simp [size_drew]; done) | (simp [size_drew]; omega))).two.2.1⟩
      refine callM hG (i := 9) (by simp only [List.getElem?_toArray, List.getElem?_cons_succ, List.getElem?_cons_zero] <;> rfl) (by kernel_rfl) (by rfl) (by rfl) (by intro W hW; have hSw := hS W hW; (try dsimp only at hSw); go_simp; (first | done | with_reducible rfl | exact ⟨rfl, rfl⟩)) ?_
      intro w5 b5
      have B5 : Below w.heap.size w w5 := (hS w5 b5).1
      have z5 := Below.size b5
      (try simp only [World.size_alloc, World.size_setCell, size_drew] at z5)
      have rp_ := (rp.below b5)
      clear rp; have rp := rp_; clear rp_
      have xk_ : Box w5 (w.heap.size) #[.int .i64 kI0, (.slice kA1 kn1 kc1)] 33 := (Box.b xk b5)
      clear xk; have xk := xk_; clear xk_
      have xx_ : Box w5 (w.heap.size + 1) #[(.slice xA0 xn0 xc0), (.slice xA1 xn1 xc1), (.slice xA2 xn2 xc2), (.slice xA3 xn3 xc3), (.slice xA4 xn4 xc4), (.slice xA5 xn5 xc5)] 68 := (Box.b xx b5)
      clear xx; have xx := xx_; clear xx_
      have xo_ : Box w5 (w.heap.size + 1 + 1) #[.int .i64 oI0, .int .i64 oI1] 73 := (Box.b xo b5)
      clear xo; have xo := xo_; clear xo_
      have xr_ : Box w5 (w.heap.size + 1 + 1 + 1) #[.slice none 0 0, .slice none 0 0] 38 := (Box.b xr b5)
      clear xr; have xr := xr_; clear xr_
      clear hS hG
      go_at_call 57
      refine (iAuthAdd_L kI0 (RdL.b kH) kL1n (RdL.b (ls := [((.slice xA4 xn4 xc4), .ints xL4), ((.slice xA5 xn5 xc5), .ints xL5)]) (RdL.sub xH (by simp))) xL4n xL5n rp.rd (Nat.le_trans aScS_len xL2n) (Nat.le_trans aScM_len xL3n)).mono ?_
      rintro e w6 ⟨qA0, qn0, qc0, qA1, qn1, qc1, rfl, rq, b6⟩
      refine ⟨_, rfl, b6, fun hG => ?_⟩
      have z6 := Below.size b6
      have B6 : Below w.heap.size w w6 := Below.t b6
      have rp_ := (rp.below b6)
      clear rp; have rp := rp_; clear rp_
      have xk_ : Box w6 (w.heap.size) #[.int .i64 kI0, (.slice kA1 kn1 kc1)] 33 := (Box.b xk b6)
      clear xk; have xk := xk_; clear xk_
      have xx_ : Box w6 (w.heap.size + 1) #[(.slice xA0 xn0 xc0), (.slice xA1 xn1 xc1), (.slice xA2 xn2 xc2), (.slice xA3 xn3 xc3), (.slice xA4 xn4 xc4), (.slice xA5 xn5 xc5)] 68 := (Box.b xx b6)
      clear xx; have xx := xx_; clear xx_
      have xo_ : Box w6 (w.heap.size + 1 + 1) #[.int .i64 oI0, .int .i64 oI1] 73 := (Box.b xo b6)
      clear xo; have xo := xo_; clear xo_
      have xr_ : Box w6 (w.heap.size + 1 + 1 + 1) #[.slice none 0 0, .slice none 0 0] 38 := (Box.b xr b6)
      clear xr; have xr := xr_; clear xr_
      (try simp only [Act.put, layA, layB, layC])
      have hS : ∀ W, Later w6 W → (Below w.heap.size w W ∧ Below w6.heap.size w6 W ∧ W.cell? ⟨w.heap.size, 0, none⟩ = some (.int .i64 kI0) ∧ W.cell? ⟨w.heap.size, 1, none⟩ = some ((.slice kA1 kn1 kc1)) ∧ W.cell? ⟨w.heap.size + 1, 0, none⟩ = some ((.slice xA0 xn0 xc0)) ∧ W.cell? ⟨w.heap.size + 1, 1, none⟩ = some ((.slice xA1 xn1 xc1)) ∧ W.cell? ⟨w.heap.size + 1, 2, none⟩ = some ((.slice xA2 xn2 xc2)) ∧ W.cell? ⟨w.heap.size + 1, 3, none⟩ = some ((.slice xA3 xn3 xc3)) ∧ W.cell? ⟨w.heap.size + 1, 4, none⟩ = some ((.slice xA4 xn4 xc4)) ∧ W.cell? ⟨w.heap.size + 1, 5, none⟩ = some ((.slice xA5 xn5 xc5)) ∧ W.cell? ⟨w.heap.size + 1 + 1, 0, none⟩ = some (.int .i64 oI0) ∧ W.cell? ⟨w.heap.size + 1 + 1, 1, none⟩ = some (.int .i64 oI1)) := fun W hW => ⟨Below.trans (b := _) (by repeat (with_reducible (first | assumption | exact Below.refl _ _ | refine Below.alloc ?_ (by first | omega | (simp; done) | (simp; omega)) _ | refine Below.setCell ?_ (by first | omega | (simp; done) | (simp; omega)) _ | refine Below.drew ?_ | refine below_drewN ?_ _))) (Below.mono hW (by first | omega | (simp [size_drew]; done) | (simp [size_drew]; omega))), Below.trans (b := _) (by repeat (with_reducible (first | assumption | exact Below.refl _ _ | refine Below.alloc ?_ (by first | omega | (simp; done) | (simp; omega)) _ | refine Below.setCell ?_ (by first | omega | (simp; done) | (simp; omega)) _ | refine Below.drew ?_ | refine below_drewN ?_ _))) (Below.mono hW (by first | omega | (simp [size_drew]; done) | (simp [size_drew]; omega))), (Box.below xk hW (by first | omega | (simp [size_drew]; done) | (simp [size_drew]; omega))).two.1, (Box.below xk hW (by first | omega | (simp [size_drew]; done) | (simp [size_drew]; omega))).two.2.1, (Box.below xx hW (by first | omega | (simp [size_drew]; done) | (simp [size_drew]; omega))).six.1, (Box.below xx hW (by first | omega | (simp [size_drew]; done) | (simp [size_drew]; omega))).six.2.1, (Box.below xx hW (by first | omega | (simp [size_drew]; done) | (simp [size_drew]; omega))).six.2.2.1, (Box.below xx hW (by first | omega | (simp [size_drew]; done) | (simp [size_drew]; omega))).six.2.2.2.1, (Box.below xx hW (by first | omega | (simp [size_drew]; done) | (simp [size_drew]; omega))).six.2.2.2.2.1, (Box.below xx hW (by first | omega | (simp [size_drew]; done) | (simp [size_drew]; omega))).six.2.2.2.2.2.1, (Box.below xo hW (by first | omega | (simp [size_drew]; done) | (simp [size_drew]; omega))).two.1, (Box.below xo hW (by first | omega | (simp [size_drew]; done) | (simp [size_drew]; omega))).two.2.1⟩
      refine storeM (z := 11) (by simp only [List.getElem?_toArray, List.getElem?_cons_succ, List.getElem?_cons_zero] <;> rfl) (by kernel_rfl) (by rfl) (by rfl) ?_
      intro w7 b7
      have B7 : Below w.heap.size w w7 := (hS w7 b7).1
      have z7 := Below.size b7
      (try simp only [World.size_alloc, World.size_setCell, size_drew] at z7)
      have rp_ := (rp.below b7)
      clear rp; have rp := rp_; clear rp_
      have rq_ := (rq.below b7)
      clear rq; have rq := rq_; clear rq_
      have xk_ : Box w7 (w.heap.size) #[.int .i64 kI0, (.slice kA1 kn1 kc1)] 33 := (Box.b xk b7)
      clear xk; have xk := xk_; clear xk_
      have xx_ : Box w7 (w.heap.size + 1) #[(.slice xA0 xn0 xc0), (.slice xA1 xn1 xc1), (.slice xA2 xn2 xc2), (.slice xA3 xn3 xc3), (.slice xA4 xn4 xc4), (.slice xA5 xn5 xc5)] 68 := (Box.b xx b7)
      clear xx; have xx := xx_; clear xx_
      have xo_ : Box w7 (w.heap.size + 1 + 1) #[.int .i64 oI0, .int .i64 oI1] 73 := (Box.b xo b7)
      clear xo; have xo := xo_; clear xo_
      have xr_ : Box w7 (w.heap.size + 1 + 1 + 1) #[.slice none 0 0, .slice none 0 0] 38 := (Box.b xr b7)
      clear xr; have xr := xr_; clear xr_
      clear hS hG
      refine Zc.cons fun gxu xu nxu => ?_
      have nxu_0 := nxu (w5.heap.size, w6.heap.size) (by simp)
      dsimp only at nxu_0 xu
      have nxu_1 := nxu (w3.heap.size, w4.heap.size) (by simp)
      dsimp only at nxu_1 xu
      have nxu_2 := nxu (0, w2.heap.size) (by simp)
      dsimp only at nxu_2 xu
      clear nxu
      refine Zc.nil ?_
      (try unfold ptr)
      (try simp only [Act.put, layA, layB, layC])
      have lxu := xu.lt
      obtain ⟨cxu_0, cxu_1, fxu_0, fxu_1⟩ := xu.two
      refine ⟨_, by go_simp; (first | done | with_reducible rfl | exact ⟨rfl, rfl⟩), ?_⟩
      (try simp only [Act.put, layA, layB, layC])
      refine wpAny_done (by kernel_rfl) ?_ _
      clear cxu_0 cxu_1 fxu_0 fxu_1
      generalize hw8 : World.setCell _ _ _ = w8
      have z8 : w7.heap.size ≤ w8.heap.size := by rw [← hw8]; simp
      have B8 : Below w.heap.size w w8 := by rw [← hw8]; repeat (with_reducible (first | assumption | exact Below.refl _ _ | refine Below.alloc ?_ (by first | omega | (simp; done) | (simp; omega)) _ | refine Below.setCell ?_ (by first | omega | (simp; done) | (simp; omega)) _ | refine Below.drew ?_ | refine below_drewN ?_ _))
      have hK : ∀ k, k ≠ gxu → k < w7.heap.size → w8.heap[k]? = w7.heap[k]? := by
        intro k h0 _; rw [← hw8]
        repeat (first | rfl | refine (Below.heap_setCell _ _ _ _ (by first | exact h0)).trans ?_)
      have rp_ := rp.keepBlock z8 (fun k h1 h2 => hK k (by omega) (by have := rp.2.1; omega))
      clear rp; have rp := rp_; clear rp_
      have rq_ := rq.keepBlock z8 (fun k h1 h2 => hK k (by omega) (by have := rq.2.1; omega))
      clear rq; have rq := rq_; clear rq_
      have xk_ : Box w8 (w.heap.size) #[.int .i64 kI0, (.slice kA1 kn1 kc1)] 33 := (by rw [← hw8]; exact ((xk.far (by omega)).far (by omega)))
      clear xk; have xk := xk_; clear xk_
      have xx_ : Box w8 (w.heap.size + 1) #[(.slice xA0 xn0 xc0), (.slice xA1 xn1 xc1), (.slice xA2 xn2 xc2), (.slice xA3 xn3 xc3), (.slice xA4 xn4 xc4), (.slice xA5 xn5 xc5)] 68 := (by rw [← hw8]; exact ((xx.far (by omega)).far (by omega)))
      clear xx; have xx := xx_; clear xx_
      have xo_ : Box w8 (w.heap.size + 1 + 1) #[.int .i64 oI0, .int .i64 oI1] 73 := (by rw [← hw8]; exact ((xo.far (by omega)).far (by omega)))
      clear xo; have xo := xo_; clear xo_
      have xr_ : Box w8 (w.heap.size + 1 + 1 + 1) #[.slice none 0 0, .slice none 0 0] 38 := (by rw [← hw8]; exact ((xr.far (by omega)).far (by omega)))
      clear xr; have xr := xr_; clear xr_
      have xu_ : Box w8 (gxu) #[.slice qA0 qn0 qc0, .slice qA1 qn1 qc1] 38 := (by rw [← hw8]; exact ((xu.setAt (i := 0) (v := .slice qA0 qn0 qc0) (ds := #[.slice qA0 qn0 qc0, .slice none 0 0]) (by simp)).setAt (i := 1) (v := .slice qA1 qn1 qc1) (ds := #[.slice qA0 qn0 qc0, .slice qA1 qn1 qc1]) (by simp)))
      clear xu; have xu := xu_; clear xu_
      clear hw8 hK
      obtain ⟨cxk_0, cxk_1, fxk_0, fxk_1⟩ := xk.two
      have l_xk_0 : w.heap.size < w8.heap.size := by omega
      obtain ⟨cxx_0, cxx_1, cxx_2, cxx_3, cxx_4, cxx_5, fxx_0, fxx_1, fxx_2, fxx_3, fxx_4, fxx_5⟩ := xx.six
      have l_xx_0 : w.heap.size + 1 < w8.heap.size := by omega
      obtain ⟨cxo_0, cxo_1, fxo_0, fxo_1⟩ := xo.two
      have l_xo_0 : w.heap.size + 1 + 1 < w8.heap.size := by omega
      obtain ⟨cxu_0, cxu_1, fxu_0, fxu_1⟩ := xu.two
      have l_xu_0 : gxu < w8.heap.size := by omega
      go_wp2_with fail
      clear cxk_0 cxk_1 fxk_0 fxk_1 l_xk_0 cxx_0 cxx_1 cxx_2 cxx_3 cxx_4 cxx_5 fxx_0 fxx_1 fxx_2 fxx_3 fxx_4 fxx_5 l_xx_0 cxo_0 cxo_1 fxo_0 fxo_1 l_xo_0 cxu_0 cxu_1 fxu_0 fxu_1 l_xu_0
      refine wp_region_M [9] (w8.heap.size) 10 (S := fun W => Below w.heap.size w W ∧ Below w8.heap.size w8 W ∧ W.cell? ⟨w.heap.size, 0, none⟩ = some (.int .i64 kI0) ∧ W.cell? ⟨w.heap.size, 1, none⟩ = some ((.slice kA1 kn1 kc1)) ∧ W.cell? ⟨w.heap.size + 1, 0, none⟩ = some ((.slice xA0 xn0 xc0)) ∧ W.cell? ⟨w.heap.size + 1, 1, none⟩ = some ((.slice xA1 xn1 xc1)) ∧ W.cell? ⟨w.heap.size + 1, 2, none⟩ = some ((.slice xA2 xn2 xc2)) ∧ W.cell? ⟨w.heap.size + 1, 3, none⟩ = some ((.slice xA3 xn3 xc3)) ∧ W.cell? ⟨w.heap.size + 1, 4, none⟩ = some ((.slice xA4 xn4 xc4)) ∧ W.cell? ⟨w.heap.size + 1, 5, none⟩ = some ((.slice xA5 xn5 xc5)) ∧ W.cell? ⟨w.heap.size + 1 + 1, 0, none⟩ = some (.int .i64 oI0) ∧ W.cell? ⟨w.heap.size + 1 + 1, 1, none⟩ = some (.int .i64 oI1) ∧ W.cell? ⟨gxu, 0, none⟩ = some (.slice qA0 qn0 qc0) ∧ W.cell? ⟨gxu, 1, none⟩ = some (.slice qA1 qn1 qc1)) (by kernel_rfl) (by rfl) (fun W hW => ⟨Below.trans (b := _) (by repeat (with_reducible (first | assumption | exact Below.refl _ _ | refine Below.alloc ?_ (by first | omega | (simp; done) | (simp; omega)) _ | refine Below.setCell ?_ (by first | omega | (simp; done) | (simp; omega)) _ | refine Below.drew ?_ | refine below_drewN ?_ _))) (Below.mono hW (by first | omega | (simp [size_drew]; done) | (simp [size_drew]; omega))), Below.trans (b := _) (by repeat (with_reducible (first | assumption | exact Below.refl _ _ | refine Below.alloc ?_ (by first | omega | (simp; done) | (simp; omega)) _ | refine Below.setCell ?_ (by first | omega | (simp; done) | (simp; omega)) _ | refine Below.drew ?_ | refine below_drewN ?_ _))) (Below.mono hW (by first | omega | (simp [size_drew]; done) | (simp [size_drew]; omega))), (Box.below xk.drew hW (by first | omega | (simp [size_drew]; done) | (simp [size_drew]; omega))).two.1, (Box.below xk.drew hW (by first | omega | (simp [size_drew]; done) | (simp [size_drew]; omega))).two.2.1, (Box.below xx.drew hW (by first | omega | (simp [size_drew]; done) | (simp [size_drew]; omega))).six.1, (Box.below xx.drew hW (by first | omega | (simp [size_drew]; done) | (simp [size_drew]; omega))).six.2.1, (Box.below xx.drew hW (by first | omega | (simp [size_drew]; done) | (simp [size_drew]; omega))).six.2.2.1, (Box.below xx.drew hW (by first | omega | (simp [size_drew]; done) | (simp [size_drew]; omega))).six.2.2.2.1, (Box.below xx.drew hW (by first | omega | (simp [size_drew]; done) | (simp [size_drew]; omega))).six.2.2.2.2.1, (Box.below xx.drew hW (by first | omega | (simp [size_drew]; done) | (simp [size_drew]; omega))).six.2.2.2.2.2.1, (Box.below xo.drew hW (by first | omega | (simp [size_drew]; done) | (simp [size_drew]; omega))).two.1, (Box.below xo.drew hW (by first | omega | (simp [size_drew]; done) | (simp [size_drew]; omega))).two.2.1, (Box.below xu.drew hW (by first | omega | (simp [size_drew]; done) | (simp [size_drew]; omega))).two.1, (Box.below xu.drew hW (by first | omega | (simp [size_drew]; done) | (simp [size_drew]; omega))).two.2.1⟩) (by first | omega | (simp [size_drew]; done) | (simp [size_drew]; omega)) (fun hS hG => ?_)
      (try dsimp only at hS)
      (refine tkM 0 hG hS ?_; (try simp only [Act.put, layA, layB, layC]))
      (refine tkM 1 hG hS ?_; (try simp only [Act.put, layA, layB, layC]))
      (refine tkM 2 hG hS ?_; (try simp only [Act.put, layA, layB, layC]))
      (refine tkM 3 hG hS ?_; (try simp only [Act.put, layA, layB, layC]))
      (refine tkM 4 hG hS ?_; (try simp only [Act.put, layA, layB, layC]))
      (refine tkM 5 hG hS ?_; (try simp only [Act.put, layA, layB, layC]))
      (refine tkM 6 hG hS ?_; (try simp only [Act.put, layA, layB, layC]))
      refine callM hG (i := 7) (by simp only [List.getElem?_toArray, List.getElem?_cons_succ, List.getElem?_cons_zero] <;> rfl) (by kernel_rfl) (by rfl) (by rfl) (by intro W hW; have hSw := hS W hW; (try dsimp only at hSw); go_simp; (first | done | with_reducible rfl | exact ⟨rfl, rfl⟩)) ?_
      intro w9 b9
      have B9 : Below w.heap.size w w9 := (hS w9 b9).1
      have z9 := Below.size b9
      (try simp only [World.size_alloc, World.size_setCell, size_drew] at z9)
      have rq_ := (rq.drew.below b9)
      clear rq; have rq := rq_; clear rq_
      have xk_ : Box w9 (w.heap.size) #[.int .i64 kI0, (.slice kA1 kn1 kc1)] 33 := (Box.b xk.drew b9)
      clear xk; have xk := xk_; clear xk_
      have xx_ : Box w9 (w.heap.size + 1) #[(.slice xA0 xn0 xc0), (.slice xA1 xn1 xc1), (.slice xA2 xn2 xc2), (.slice xA3 xn3 xc3), (.slice xA4 xn4 xc4), (.slice xA5 xn5 xc5)] 68 := (Box.b xx.drew b9)
      clear xx; have xx := xx_; clear xx_
      have xo_ : Box w9 (w.heap.size + 1 + 1) #[.int .i64 oI0, .int .i64 oI1] 73 := (Box.b xo.drew b9)
      clear xo; have xo := xo_; clear xo_
      have xr_ : Box w9 (w.heap.size + 1 + 1 + 1) #[.slice none 0 0, .slice none 0 0] 38 := (Box.b xr.drew b9)
      clear xr; have xr := xr_; clear xr_
      have xu_ : Box w9 (gxu) #[.slice qA0 qn0 qc0, .slice qA1 qn1 qc1] 38 := (Box.b xu.drew b9)
      clear xu; have xu := xu_; clear xu_
      clear hS hG
      go_at_call 53
      refine (iAuthScale_L kI0 (RdL.b kH) kL1n (RdL.b (ls := [((.slice xA0 xn0 xc0), .ints xL0), ((.slice xA1 xn1 xc1), .ints xL1)]) (RdL.sub xH (by simp))) xL0n xL1n oI1).mono ?_
      rintro e w10 ⟨mA0, mn0, mc0, mA1, mn1, mc1, rfl, rm, b10⟩
      refine ⟨_, rfl, b10, fun hG => ?_⟩
      have z10 := Below.size b10
      have B10 : Below w.heap.size w w10 := Below.t b10
      have rq_ := (rq.below b10)
      clear rq; have rq := rq_; clear rq_
      have xk_ : Box w10 (w.heap.size) #[.int .i64 kI0, (.slice kA1 kn1 kc1)] 33 := (Box.b xk b10)
      clear xk; have xk := xk_; clear xk_
      have xx_ : Box w10 (w.heap.size + 1) #[(.slice xA0 xn0 xc0), (.slice xA1 xn1 xc1), (.slice xA2 xn2 xc2), (.slice xA3 xn3 xc3), (.slice xA4 xn4 xc4), (.slice xA5 xn5 xc5)] 68 := (Box.b xx b10)
      clear xx; have xx := xx_; clear xx_
      have xo_ : Box w10 (w.heap.size + 1 + 1) #[.int .i64 oI0, .int .i64 oI1] 73 := (Box.b xo b10)
      clear xo; have xo := xo_; clear xo_
      have xr_ : Box w10 (w.heap.size + 1 + 1 + 1) #[.slice none 0 0, .slice none 0 0] 38 := (Box.b xr b10)
      clear xr; have xr := xr_; clear xr_
      have xu_ : Box w10 (gxu) #[.slice qA0 qn0 qc0, .slice qA1 qn1 qc1] 38 := (Box.b xu b10)
      clear xu; have xu := xu_; clear xu_
      (try simp only [Act.put, layA, layB, layC])
      have hS : ∀ W, Later w10 W → (Below w.heap.size w W ∧ Below w10.heap.size w10 W ∧ W.cell? ⟨w.heap.size, 0, none⟩ = some (.int .i64 kI0) ∧ W.cell? ⟨w.heap.size, 1, none⟩ = some ((.slice kA1 kn1 kc1)) ∧ W.cell? ⟨w.heap.size + 1, 0, none⟩ = some ((.slice xA0 xn0 xc0)) ∧ W.cell? ⟨w.heap.size + 1, 1, none⟩ = some ((.slice xA1 xn1 xc1)) ∧ W.cell? ⟨w.heap.size + 1, 2, none⟩ = some ((.slice xA2 xn2 xc2)) ∧ W.cell? ⟨w.heap.size + 1, 3, none⟩ = some ((.slice xA3 xn3 xc3)) ∧ W.cell? ⟨w.heap.size + 1, 4, none⟩ = some ((.slice xA4 xn4 xc4)) ∧ W.cell? ⟨w.heap.size + 1, 5, none⟩ = some ((.slice xA5 xn5 xc5)) ∧ W.cell? ⟨w.heap.size + 1 + 1, 0, none⟩ = some (.int .i64 oI0) ∧ W.cell? ⟨w.heap.size + 1 + 1, 1, none⟩ = some (.int .i64 oI1) ∧ W.cell? ⟨gxu, 0, none⟩ = some (.slice qA0 qn0 qc0) ∧ W.cell? ⟨gxu, 1, none⟩ = some (.slice qA1 qn1 qc1)) := fun W hW => ⟨Below.trans (b := _) (by repeat (with_reducible (first | assumption | exact Below.refl _ _ | refine Below.alloc ?_ (by first | omega | (simp; done) | (simp; omega)) _ | refine Below.setCell ?_ (by first | omega | (simp; done) | (simp; omega)) _ | refine Below.drew ?_ | refine below_drewN ?_ _))) (Below.mono hW (by first | omega | (simp [size_drew]; done) | (simp [size_drew]; omega))), Below.trans (b := _) (by repeat (with_reducible (first | assumption | exact Below.refl _ _ | refine Below.alloc ?_ (by first | omega | (simp; done) | (simp; omega)) _ | refine Below.setCell ?_ (by first | omega | (simp; done) | (simp; omega)) _ | refine Below.drew ?_ | refine below_drewN ?_ _))) (Below.mono hW (by first | omega | (simp [size_drew]; done) | (simp [size_drew]; omega))), (Box.below xk hW (by first | omega | (simp [size_drew]; done) | (simp [size_drew]; omega))).two.1, (Box.below xk hW (by first | omega | (simp [size_drew]; done) | (simp [size_drew]; omega))).two.2.1, (Box.below xx hW (by first | omega | (simp [size_drew]; done) | (simp [size_drew]; omega))).six.1, (Box.below xx hW (by first | omega | (simp [size_drew]; done) | (simp [size_drew]; omega))).six.2.1, (Box.below xx hW (by first | omega | (simp [size_drew]; done) | (simp [size_drew]; omega))).six.2.2.1, (Box.below xx hW (by first | omega | (simp [size_drew]; done) | (simp [size_drew]; omega))).six.2.2.2.1, (Box.below xx hW (by first | omega | (simp [size_drew]; done) | (simp [size_drew]; omega))).six.2.2.2.2.1, (Box.below xx hW (by first | omega | (simp [size_drew]; done) | (simp [size_drew]; omega))).six.2.2.2.2.2.1, (Box.below xo hW (by first | omega | (simp [size_drew]; done) | (simp [size_drew]; omega))).two.1, (Box.below xo hW (by first | omega | (simp [size_drew]; done) | (simp [size_drew]; omega))).two.2.1, (Box.below xu hW (by first | omega | (simp [size_drew]; done) | (simp [size_drew]; omega))).two.1, (Box.below xu hW (by first | omega | (simp [size_drew]; done) | (simp [size_drew]; omega))).two.2.1⟩
      refine callM hG (i := 8) (by simp only [List.getElem?_toArray, List.getElem?_cons_succ, List.getElem?_cons_zero] <;> rfl) (by kernel_rfl) (by rfl) (by rfl) (by intro W hW; have hSw := hS W hW; (try dsimp only at hSw); go_simp; (first | done | with_reducible rfl | exact ⟨rfl, rfl⟩)) ?_
      intro w11 b11
      have B11 : Below w.heap.size w w11 := (hS w11 b11).1
      have z11 := Below.size b11
      (try simp only [World.size_alloc, World.size_setCell, size_drew] at z11)
      have rq_ := (rq.below b11)
      clear rq; have rq := rq_; clear rq_
      have rm_ := (rm.below b11)
      clear rm; have rm := rm_; clear rm_
      have xk_ : Box w11 (w.heap.size) #[.int .i64 kI0, (.slice kA1 kn1 kc1)] 33 := (Box.b xk b11)
      clear xk; have xk := xk_; clear xk_
      have xx_ : Box w11 (w.heap.size + 1) #[(.slice xA0 xn0 xc0), (.slice xA1 xn1 xc1), (.slice xA2 xn2 xc2), (.slice xA3 xn3 xc3), (.slice xA4 xn4 xc4), (.slice xA5 xn5 xc5)] 68 := (Box.b xx b11)
      clear xx; have xx := xx_; clear xx_
      have xo_ : Box w11 (w.heap.size + 1 + 1) #[.int .i64 oI0, .int .i64 oI1] 73 := (Box.b xo b11)
      clear xo; have xo := xo_; clear xo_
      have xr_ : Box w11 (w.heap.size + 1 + 1 + 1) #[.slice none 0 0, .slice none 0 0] 38 := (Box.b xr b11)
      clear xr; have xr := xr_; clear xr_
      have xu_ : Box w11 (gxu) #[.slice qA0 qn0 qc0, .slice qA1 qn1 qc1] 38 := (Box.b xu b11)
      clear xu; have xu := xu_; clear xu_
      clear hS hG
      go_at_call 57
      refine (iAuthAdd_L kI0 (RdL.b kH) kL1n rq.rd (Nat.le_trans u1S_len xL4n) (Nat.le_trans u1M_len xL5n) rm.rd (Nat.le_trans aScS_len xL0n) (Nat.le_trans aScM_len xL1n)).mono ?_
      rintro e w12 ⟨hA0, hn0, hc0, hA1, hn1, hc1, rfl, rh, b12⟩
      refine ⟨_, rfl, b12, fun hG => ?_⟩
      have z12 := Below.size b12
      have B12 : Below w.heap.size w w12 := Below.t b12
      have rq_ := (rq.below b12)
      clear rq; have rq := rq_; clear rq_
      have rm_ := (rm.below b12)
      clear rm; have rm := rm_; clear rm_
      have xk_ : Box w12 (w.heap.size) #[.int .i64 kI0, (.slice kA1 kn1 kc1)] 33 := (Box.b xk b12)
      clear xk; have xk := xk_; clear xk_
      have xx_ : Box w12 (w.heap.size + 1) #[(.slice xA0 xn0 xc0), (.slice xA1 xn1 xc1), (.slice xA2 xn2 xc2), (.slice xA3 xn3 xc3), (.slice xA4 xn4 xc4), (.slice xA5 xn5 xc5)] 68 := (Box.b xx b12)
      clear xx; have xx := xx_; clear xx_
      have xo_ : Box w12 (w.heap.size + 1 + 1) #[.int .i64 oI0, .int .i64 oI1] 73 := (Box.b xo b12)
      clear xo; have xo := xo_; clear xo_
      have xr_ : Box w12 (w.heap.size + 1 + 1 + 1) #[.slice none 0 0, .slice none 0 0] 38 := (Box.b xr b12)
      clear xr; have xr := xr_; clear xr_
      have xu_ : Box w12 (gxu) #[.slice qA0 qn0 qc0, .slice qA1 qn1 qc1] 38 := (Box.b xu b12)
      clear xu; have xu := xu_; clear xu_
      (try simp only [Act.put, layA, layB, layC])
      have hS : ∀ W, Later w12 W → (Below w.heap.size w W ∧ Below w12.heap.size w12 W ∧ W.cell? ⟨w.heap.size, 0, none⟩ = some (.int .i64 kI0) ∧ W.cell? ⟨w.heap.size, 1, none⟩ = some ((.slice kA1 kn1 kc1)) ∧ W.cell? ⟨w.heap.size + 1, 0, none⟩ = some ((.slice xA0 xn0 xc0)) ∧ W.cell? ⟨w.heap.size + 1, 1, none⟩ = some ((.slice xA1 xn1 xc1)) ∧ W.cell? ⟨w.heap.size + 1, 2, none⟩ = some ((.slice xA2 xn2 xc2)) ∧ W.cell? ⟨w.heap.size + 1, 3, none⟩ = some ((.slice xA3 xn3 xc3)) ∧ W.cell? ⟨w.heap.size + 1, 4, none⟩ = some ((.slice xA4 xn4 xc4)) ∧ W.cell? ⟨w.heap.size + 1, 5, none⟩ = some ((.slice xA5 xn5 xc5)) ∧ W.cell? ⟨w.heap.size + 1 + 1, 0, none⟩ = some (.int .i64 oI0) ∧ W.cell? ⟨w.heap.size + 1 + 1, 1, none⟩ = some (.int .i64 oI1) ∧ W.cell? ⟨gxu, 0, none⟩ = some (.slice qA0 qn0 qc0) ∧ W.cell? ⟨gxu, 1, none⟩ = some (.slice qA1 qn1 qc1)) := fun W hW => ⟨Below.trans (b := _) (by repeat (with_reducible (first | assumption | exact Below.refl _ _ | refine Below.alloc ?_ (by first | omega | (simp; done) | (simp; omega)) _ | refine Below.setCell ?_ (by first | omega | (simp; done) | (simp; omega)) _ | refine Below.drew ?_ | refine below_drewN ?_ _))) (Below.mono hW (by first | omega | (simp [size_drew]; done) | (simp [size_drew]; omega))), Below.trans (b := _) (by repeat (with_reducible (first | assumption | exact Below.refl _ _ | refine Below.alloc ?_ (by first | omega | (simp; done) | (simp; omega)) _ | refine Below.setCell ?_ (by first | omega | (simp; done) | (simp; omega)) _ | refine Below.drew ?_ | refine below_drewN ?_ _))) (Below.mono hW (by first | omega | (simp [size_drew]; done) | (simp [size_drew]; omega))), (Box.below xk hW (by first | omega | (simp [size_drew]; done) | (simp [size_drew]; omega))).two.1, (Box.below xk hW (by first | omega | (simp [size_drew]; done) | (simp [size_drew]; omega))).two.2.1, (Box.below xx hW (by first | omega | (simp [size_drew]; done) | (simp [size_drew]; omega))).six.1, (Box.below xx hW (by first | omega | (simp [size_drew]; done) | (simp [size_drew]; omega))).six.2.1, (Box.below xx hW (by first | omega | (simp [size_drew]; done) | (simp [size_drew]; omega))).six.2.2.1, (Box.below xx hW (by first | omega | (simp [size_drew]; done) | (simp [size_drew]; omega))).six.2.2.2.1, (Box.below xx hW (by first | omega | (simp [size_drew]; done) | (simp [size_drew]; omega))).six.2.2.2.2.1, (Box.below xx hW (by first | omega | (simp [size_drew]; done) | (simp [size_drew]; omega))).six.2.2.2.2.2.1, (Box.below xo hW (by first | omega | (simp [size_drew]; done) | (simp [size_drew]; omega))).two.1, (Box.below xo hW (by first | omega | (simp [size_drew]; done) | (simp [size_drew]; omega))).two.2.1, (Box.below xu hW (by first | omega | (simp [size_drew]; done) | (simp [size_drew]; omega))).two.1, (Box.below xu hW (by first | omega | (simp [size_drew]; done) | (simp [size_drew]; omega))).two.2.1⟩
      refine storeM (z := 9) (by simp only [List.getElem?_toArray, List.getElem?_cons_succ, List.getElem?_cons_zero] <;> rfl) (by kernel_rfl) (by rfl) (by rfl) ?_
      intro w13 b13
      have B13 : Below w.heap.size w w13 := (hS w13 b13).1
      have z13 := Below.size b13
      (try simp only [World.size_alloc, World.size_setCell, size_drew] at z13)
      have rq_ := (rq.below b13)
      clear rq; have rq := rq_; clear rq_
      have rm_ := (rm.below b13)
      clear rm; have rm := rm_; clear rm_
      have rh_ := (rh.below b13)
      clear rh; have rh := rh_; clear rh_
      have xk_ : Box w13 (w.heap.size) #[.int .i64 kI0, (.slice kA1 kn1 kc1)] 33 := (Box.b xk b13)
      clear xk; have xk := xk_; clear xk_
      have xx_ : Box w13 (w.heap.size + 1) #[(.slice xA0 xn0 xc0), (.slice xA1 xn1 xc1), (.slice xA2 xn2 xc2), (.slice xA3 xn3 xc3), (.slice xA4 xn4 xc4), (.slice xA5 xn5 xc5)] 68 := (Box.b xx b13)
      clear xx; have xx := xx_; clear xx_
      have xo_ : Box w13 (w.heap.size + 1 + 1) #[.int .i64 oI0, .int .i64 oI1] 73 := (Box.b xo b13)
      clear xo; have xo := xo_; clear xo_
      have xr_ : Box w13 (w.heap.size + 1 + 1 + 1) #[.slice none 0 0, .slice none 0 0] 38 := (Box.b xr b13)
      clear xr; have xr := xr_; clear xr_
      have xu_ : Box w13 (gxu) #[.slice qA0 qn0 qc0, .slice qA1 qn1 qc1] 38 := (Box.b xu b13)
      clear xu; have xu := xu_; clear xu_
      clear hS hG
      refine Zc.nil ?_
      (try unfold ptr)
      (try simp only [Act.put, layA, layB, layC])
      obtain ⟨cxu_0, cxu_1, fxu_0, fxu_1⟩ := xu.two
      refine ⟨_, by go_simp; (first | done | with_reducible rfl | exact ⟨rfl, rfl⟩), ?_⟩
      (try simp only [Act.put, layA, layB, layC])
      refine wpAny_done (by kernel_rfl) ?_ _
      clear cxu_0 cxu_1 fxu_0 fxu_1
      generalize hw14 : World.setCell _ _ _ = w14
      have z14 : w13.heap.size ≤ w14.heap.size := by rw [← hw14]; simp
      have B14 : Below w.heap.size w w14 := by rw [← hw14]; repeat (with_reducible (first | assumption | exact Below.refl _ _ | refine Below.alloc ?_ (by first | omega | (simp; done) | (simp; omega)) _ | refine Below.setCell ?_ (by first | omega | (simp; done) | (simp; omega)) _ | refine Below.drew ?_ | refine below_drewN ?_ _))
      have hK : ∀ k, k ≠ gxu → k < w13.heap.size → w14.heap[k]? = w13.heap[k]? := by
        intro k h0 _; rw [← hw14]
        repeat (first | rfl | refine (Below.heap_setCell _ _ _ _ (by first | exact h0)).trans ?_)
      have rq_ := rq.keepBlock z14 (fun k h1 h2 => hK k (by omega) (by have := rq.2.1; omega))
      clear rq; have rq := rq_; clear rq_
      have rm_ := rm.keepBlock z14 (fun k h1 h2 => hK k (by omega) (by have := rm.2.1; omega))
      clear rm; have rm := rm_; clear rm_
      have rh_ := rh.keepBlock z14 (fun k h1 h2 => hK k (by omega) (by have := rh.2.1; omega))
      clear rh; have rh := rh_; clear rh_
      have xk_ : Box w14 (w.heap.size) #[.int .i64 kI0, (.slice kA1 kn1 kc1)] 33 := (by rw [← hw14]; exact ((xk.far (by omega)).far (by omega)))
      clear xk; have xk := xk_; clear xk_
      have xx_ : Box w14 (w.heap.size + 1) #[(.slice xA0 xn0 xc0), (.slice xA1 xn1 xc1), (.slice xA2 xn2 xc2), (.slice xA3 xn3 xc3), (.slice xA4 xn4 xc4), (.slice xA5 xn5 xc5)] 68 := (by rw [← hw14]; exact ((xx.far (by omega)).far (by omega)))
      clear xx; have xx := xx_; clear xx_
      have xo_ : Box w14 (w.heap.size + 1 + 1) #[.int .i64 oI0, .int .i64 oI1] 73 := (by rw [← hw14]; exact ((xo.far (by omega)).far (by omega)))
      clear xo; have xo := xo_; clear xo_
      have xr_ : Box w14 (w.heap.size + 1 + 1 + 1) #[.slice none 0 0, .slice none 0 0] 38 := (by rw [← hw14]; exact ((xr.far (by omega)).far (by omega)))
      clear xr; have xr := xr_; clear xr_
      have xu_ : Box w14 (gxu) #[.slice hA0 hn0 hc0, .slice hA1 hn1 hc1] 38 := (by rw [← hw14]; exact ((xu.setAt (i := 0) (v := .slice hA0 hn0 hc0) (ds := #[.slice hA0 hn0 hc0, .slice qA1 qn1 qc1]) (by simp)).setAt (i := 1) (v := .slice hA1 hn1 hc1) (ds := #[.slice hA0 hn0 hc0, .slice hA1 hn1 hc1]) (by simp)))
      clear xu; have xu := xu_; clear xu_
      clear hw14 hK
      obtain ⟨cxk_0, cxk_1, fxk_0, fxk_1⟩ := xk.two
      have l_xk_0 : w.heap.size < w14.heap.size := by omega
      obtain ⟨cxo_0, cxo_1, fxo_0, fxo_1⟩ := xo.two
      have l_xo_0 : w.heap.size + 1 + 1 < w14.heap.size := by omega
      obtain ⟨cxu_0, cxu_1, fxu_0, fxu_1⟩ := xu.two
      have l_xu_0 : gxu < w14.heap.size := by omega
      go_wp2_with fail
      clear cxk_0 cxk_1 fxk_0 fxk_1 l_xk_0 cxo_0 cxo_1 fxo_0 fxo_1 l_xo_0 cxu_0 cxu_1 fxu_0 fxu_1 l_xu_0
      refine wp_region_held_drew (S := fun W => W.cell? ⟨w.heap.size, 0, none⟩ = some (.int .i64 kI0) ∧ W.cell? ⟨w.heap.size, 1, none⟩ = some ((.slice kA1 kn1 kc1)) ∧ W.cell? ⟨w.heap.size + 1 + 1, 0, none⟩ = some (.int .i64 oI0) ∧ W.cell? ⟨w.heap.size + 1 + 1, 1, none⟩ = some (.int .i64 oI1) ∧ W.cell? ⟨gxu, 0, none⟩ = some (.slice hA0 hn0 hc0) ∧ W.cell? ⟨gxu, 1, none⟩ = some (.slice hA1 hn1 hc1)) (by kernel_rfl) ⟨xk.drew.two.1, xk.drew.two.2.1, xo.drew.two.1, xo.drew.two.2.1, xu.drew.two.1, xu.drew.two.2.1⟩ (fun hS => ?_)
      (refine tk 0 hS ?_; (try simp only [Act.put, layA, layB, layC]))
      (refine tk 1 hS ?_; (try simp only [Act.put, layA, layB, layC]))
      (refine tk 2 hS ?_; (try simp only [Act.put, layA, layB, layC]))
      (refine tk 3 hS ?_; (try simp only [Act.put, layA, layB, layC]))
      (refine tk 4 hS ?_; (try simp only [Act.put, layA, layB, layC]))
      (refine tk 5 hS ?_; (try simp only [Act.put, layA, layB, layC]))
      (refine tk 6 hS ?_; (try simp only [Act.put, layA, layB, layC]))
      (refine tk 7 hS ?_; (try simp only [Act.put, layA, layB, layC]))
      refine on 8 ?_
      refine callH (by go_simp; (first | done | with_reducible rfl | exact ⟨rfl, rfl⟩)) ?_
      go_at_call 101
      refine (iFMul_any _ _ _ _).mono ?_
      rintro e w15 ⟨rfl, b15⟩
      clear hS
      have z15 := Below.size b15
      (try simp only [World.size_alloc, World.size_setCell, size_drew] at z15)
      have B15 : Below w.heap.size w w15 := Below.t b15
      have rh_ := (rh.drew.below b15)
      clear rh; have rh := rh_; clear rh_
      have xk_ : Box w15 (w.heap.size) #[.int .i64 kI0, (.slice kA1 kn1 kc1)] 33 := (Box.b xk.drew b15)
      clear xk; have xk := xk_; clear xk_
      have xx_ : Box w15 (w.heap.size + 1) #[(.slice xA0 xn0 xc0), (.slice xA1 xn1 xc1), (.slice xA2 xn2 xc2), (.slice xA3 xn3 xc3), (.slice xA4 xn4 xc4), (.slice xA5 xn5 xc5)] 68 := (Box.b xx.drew b15)
      clear xx; have xx := xx_; clear xx_
      have xo_ : Box w15 (w.heap.size + 1 + 1) #[.int .i64 oI0, .int .i64 oI1] 73 := (Box.b xo.drew b15)
      clear xo; have xo := xo_; clear xo_
      have xr_ : Box w15 (w.heap.size + 1 + 1 + 1) #[.slice none 0 0, .slice none 0 0] 38 := (Box.b xr.drew b15)
      clear xr; have xr := xr_; clear xr_
      have xu_ : Box w15 (gxu) #[.slice hA0 hn0 hc0, .slice hA1 hn1 hc1] 38 := (Box.b xu.drew b15)
      clear xu; have xu := xu_; clear xu_
      refine ⟨_, rfl, ⟨xk.two.1, xk.two.2.1, xo.two.1, xo.two.2.1, xu.two.1, xu.two.2.1⟩, fun hS => ?_⟩
      (try simp only [Act.put, layA, layB, layC])
      refine on 9 ?_
      refine callH (by go_simp; (first | done | with_reducible rfl | exact ⟨rfl, rfl⟩)) ?_
      go_at_call 75
      refine (iAuthConst_L kI0 (RdL.b kH) kL1n rh.rd (Nat.le_trans u2S_len xL4n) (Nat.le_trans u2M_len xL5n) _).mono ?_
      rintro e w16 ⟨vA0, vn0, vc0, vA1, vn1, vc1, rfl, rv, b16⟩
      clear hS
      have z16 := Below.size b16
      (try simp only [World.size_alloc, World.size_setCell, size_drew] at z16)
      have B16 : Below w.heap.size w w16 := Below.t b16
      have rh_ := (rh.below b16)
      clear rh; have rh := rh_; clear rh_
      have xk_ : Box w16 (w.heap.size) #[.int .i64 kI0, (.slice kA1 kn1 kc1)] 33 := (Box.b xk b16)
      clear xk; have xk := xk_; clear xk_
      have xx_ : Box w16 (w.heap.size + 1) #[(.slice xA0 xn0 xc0), (.slice xA1 xn1 xc1), (.slice xA2 xn2 xc2), (.slice xA3 xn3 xc3), (.slice xA4 xn4 xc4), (.slice xA5 xn5 xc5)] 68 := (Box.b xx b16)
      clear xx; have xx := xx_; clear xx_
      have xo_ : Box w16 (w.heap.size + 1 + 1) #[.int .i64 oI0, .int .i64 oI1] 73 := (Box.b xo b16)
      clear xo; have xo := xo_; clear xo_
      have xr_ : Box w16 (w.heap.size + 1 + 1 + 1) #[.slice none 0 0, .slice none 0 0] 38 := (Box.b xr b16)
      clear xr; have xr := xr_; clear xr_
      have xu_ : Box w16 (gxu) #[.slice hA0 hn0 hc0, .slice hA1 hn1 hc1] 38 := (Box.b xu b16)
      clear xu; have xu := xu_; clear xu_
      (try simp only [World.size_alloc, World.size_setCell, size_drew] at rv)
      refine ⟨_, rfl, ⟨xk.two.1, xk.two.2.1, xo.two.1, xo.two.2.1, xu.two.1, xu.two.2.1⟩, fun hS => ?_⟩
      (try simp only [Act.put, layA, layB, layC])
      refine on 10 ?_
      obtain ⟨cxr_0, cxr_1, fxr_0, fxr_1⟩ := xr.two
      refine skipH (by go_simp; (first | done | with_reducible rfl | exact ⟨rfl, rfl⟩)) ?_ (fun hS_ => ?_)
      · exact ⟨((xk.far (by omega)).far (by omega)).two.1, ((xk.far (by omega)).far (by omega)).two.2.1, ((xo.far (by omega)).far (by omega)).two.1, ((xo.far (by omega)).far (by omega)).two.2.1, ((xu.far (by omega)).far (by omega)).two.1, ((xu.far (by omega)).far (by omega)).two.2.1⟩
      clear cxr_0 cxr_1 fxr_0 fxr_1
      clear hS
      have hS := hS_
      clear hS_
      (try simp only [Act.put, layA, layB, layC])
      clear hS
      refine wpAnyH_done (by kernel_rfl) ?_ _
      obtain ⟨cxr_0, cxr_1, fxr_0, fxr_1⟩ := xr.two
      have l_xr_0 : w.heap.size + 1 + 1 + 1 < w16.heap.size := by omega
      go_wp2
      refine bodyPost_ret (v := .agg #[.slice vA0 vn0 vc0, .slice vA1 vn1 vc1]) ?_ rfl ⟨_, _, _, _, _, _, rfl, ?_, ?_⟩
      · simp [results, Try.results82, go_sem, cxr_0, cxr_1, fxr_0, fxr_1, l_xr_0]
      · have R := rv
        rw [uS_yes HO, uM_yes HO]; exact OwnL.mono ((R.setBox (by omega)).setBox (by omega)) (by omega) (by first | omega | (simp [size_drew]; done) | (simp [size_drew]; omega)) (Nat.le_refl _)
      · repeat (with_reducible (first | assumption | exact Below.refl _ _ | refine Below.alloc ?_ (by first | omega | (simp; done) | (simp; omega)) _ | refine Below.setCell ?_ (by first | omega | (simp; done) | (simp; omega)) _ | refine Below.drew ?_ | refine below_drewN ?_ _))
end Go.Proofs.Ytllnnbmgdbinnaa

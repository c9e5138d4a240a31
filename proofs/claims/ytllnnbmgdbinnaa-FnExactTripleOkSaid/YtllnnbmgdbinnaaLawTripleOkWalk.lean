/- The walk of the law FnExactTripleOk. Printed by laws2.py. -/
import Derived.Test.YtllnnbmgdbinnaaTri
import Derived.Test.YtllnnbmgdbinnaaHk
import Derived.Test.YtllnnbmgdbinnaaAuto
namespace Go.Proofs.Ytllnnbmgdbinnaa
set_option linter.unusedSimpArgs false
set_option linter.unusedVariables false
open Go.RowKit
set_option maxRecDepth 100000 in
set_option maxHeartbeats 2000000 in
theorem walk_FnExactTripleOk (kI0 : Int) (kL1V : Value) (kL1 : List Int) (xL0V : Value) (xL0 : List Int) (xL1V : Value) (xL1 : List Int) (xL2V : Value) (xL2 : List Int) (xL3V : Value) (xL3 : List Int) (xL4V : Value) (xL4 : List Int) (xL5V : Value) (xL5 : List Int) (w : World) (kL1h : Rd0 w kL1V kL1) (xL0h : Rd0 w xL0V xL0) (xL1h : Rd0 w xL1V xL1) (xL2h : Rd0 w xL2V xL2) (xL3h : Rd0 w xL3V xL3) (xL4h : Rd0 w xL4V xL4) (xL5h : Rd0 w xL5V xL5) :
    Calls Try.prog 13 #[.agg #[.int .i64 kI0, kL1V], .agg #[xL0V, xL1V, xL2V, xL3V, xL4V, xL5V]] w fun e w' => e = .returned (.bool true) ∧ Below w.heap.size w w' := by
  obtain ⟨kA1, kn1, kc1, rfl, kL1x, kL1I⟩ := kL1h
  have kL1h : Rd0 w (.slice kA1 kn1 kc1) kL1 := ⟨_, _, _, rfl, kL1x, kL1I⟩
  obtain ⟨xA0, xn0, xc0, rfl, xL0x, xL0I⟩ := xL0h
  have xL0h : Rd0 w (.slice xA0 xn0 xc0) xL0 := ⟨_, _, _, rfl, xL0x, xL0I⟩
  obtain ⟨xA1, xn1, xc1, rfl, xL1x, xL1I⟩ := xL1h
  have xL1h : Rd0 w (.slice xA1 xn1 xc1) xL1 := ⟨_, _, _, rfl, xL1x, xL1I⟩
  obtain ⟨xA2, xn2, xc2, rfl, xL2x, xL2I⟩ := xL2h
  have xL2h : Rd0 w (.slice xA2 xn2 xc2) xL2 := ⟨_, _, _, rfl, xL2x, xL2I⟩
  obtain ⟨xA3, xn3, xc3, rfl, xL3x, xL3I⟩ := xL3h
  have xL3h : Rd0 w (.slice xA3 xn3 xc3) xL3 := ⟨_, _, _, rfl, xL3x, xL3I⟩
  obtain ⟨xA4, xn4, xc4, rfl, xL4x, xL4I⟩ := xL4h
  have xL4h : Rd0 w (.slice xA4 xn4 xc4) xL4 := ⟨_, _, _, rfl, xL4x, xL4I⟩
  obtain ⟨xA5, xn5, xc5, rfl, xL5x, xL5I⟩ := xL5h
  have xL5h : Rd0 w (.slice xA5 xn5 xc5) xL5 := ⟨_, _, _, rfl, xL5x, xL5I⟩
  by_cases sz0 : (kL1.length) ≤ 1048576
  · skip
    by_cases sz1 : (kL1.length) + (xL0.length + xL1.length + xL2.length + xL3.length + xL4.length + xL5.length) ≤ 1048576
    · skip
      have kL1n : kL1.length ≤ 1048576 := by omega
      have xL0n : xL0.length ≤ 1048576 := by omega
      have xL1n : xL1.length ≤ 1048576 := by omega
      have xL2n : xL2.length ≤ 1048576 := by omega
      have xL3n : xL3.length ≤ 1048576 := by omega
      have xL4n : xL4.length ≤ 1048576 := by omega
      have xL5n : xL5.length ≤ 1048576 := by omega
      go_enter Try.func13, Try.ntmps13
      go_wp2_with fail
      refine (szKeys_yes kI0 kL1h.b (1048576) _ (by first | rfl | simp) (by omega) (by omega)).mono ?_
      rintro e w1 ⟨rfl, b1⟩
      have z1 := b1.size
      try simp only [World.size_alloc, World.size_setCell, size_drew] at z1
      have B1 : Below w.heap.size w w1 := Below.t b1
      have pk_ : Box w1 (w.heap.size) #[.int .i64 kI0, (.slice kA1 kn1 kc1)] 30 := ((Box.new (g := w.heap.size) _ #[.int .i64 kI0, (.slice kA1 kn1 kc1)] 30 (by simp)).alloc _).below b1 (by first | omega | (simp [size_drew]; done) | (simp [size_drew]; omega))
      have pk := pk_; clear pk_
      have px_ : Box w1 (w.heap.size + 1) #[(.slice xA0 xn0 xc0), (.slice xA1 xn1 xc1), (.slice xA2 xn2 xc2), (.slice xA3 xn3 xc3), (.slice xA4 xn4 xc4), (.slice xA5 xn5 xc5)] 64 := (Box.new (g := w.heap.size + 1) _ #[(.slice xA0 xn0 xc0), (.slice xA1 xn1 xc1), (.slice xA2 xn2 xc2), (.slice xA3 xn3 xc3), (.slice xA4 xn4 xc4), (.slice xA5 xn5 xc5)] 64 (by simp)).below b1 (by first | omega | (simp [size_drew]; done) | (simp [size_drew]; omega))
      have px := px_; clear px_
      obtain ⟨cpx_0, cpx_1, cpx_2, cpx_3, cpx_4, cpx_5, fpx_0, fpx_1, fpx_2, fpx_3, fpx_4, fpx_5⟩ := px.six
      have l_px_0 : w.heap.size + 1 < w1.heap.size := by omega
      go_wp2_with fail
      refine (szTriple_yes xL0h.b xL1h.b xL2h.b xL3h.b xL4h.b xL5h.b (1048576 - (kL1.length)) _ (by first | rfl | simp) (by omega) (by omega)).mono ?_
      rintro e w2 ⟨rfl, b2⟩
      clear cpx_0 cpx_1 cpx_2 cpx_3 cpx_4 cpx_5 fpx_0 fpx_1 fpx_2 fpx_3 fpx_4 fpx_5 l_px_0
      have z2 := b2.size
      try simp only [World.size_alloc, World.size_setCell, size_drew] at z2
      have B2 : Below w.heap.size w w2 := Below.t b2
      have pk_ : Box w2 (w.heap.size) #[.int .i64 kI0, (.slice kA1 kn1 kc1)] 30 := pk.below b2 (by first | omega | (simp [size_drew]; done) | (simp [size_drew]; omega))
      clear pk; have pk := pk_; clear pk_
      have px_ : Box w2 (w.heap.size + 1) #[(.slice xA0 xn0 xc0), (.slice xA1 xn1 xc1), (.slice xA2 xn2 xc2), (.slice xA3 xn3 xc3), (.slice xA4 xn4 xc4), (.slice xA5 xn5 xc5)] 64 := px.below b2 (by first | omega | (simp [size_drew]; done) | (simp [size_drew]; omega))
      clear px; have px := px_; clear px_
      obtain ⟨cpk_0, cpk_1, fpk_0, fpk_1⟩ := pk.two
      have l_pk_0 : w.heap.size < w2.heap.size := by omega
      obtain ⟨cpx_0, cpx_1, cpx_2, cpx_3, cpx_4, cpx_5, fpx_0, fpx_1, fpx_2, fpx_3, fpx_4, fpx_5⟩ := px.six
      have l_px_0 : w.heap.size + 1 < w2.heap.size := by omega
      go_wp2_with fail
      clear cpk_0 cpk_1 fpk_0 fpk_1 l_pk_0 cpx_0 cpx_1 cpx_2 cpx_3 cpx_4 cpx_5 fpx_0 fpx_1 fpx_2 fpx_3 fpx_4 fpx_5 l_px_0
      refine wp_region_held_drew (S := fun W => W.cell? ⟨w.heap.size, 0, none⟩ = some (.int .i64 kI0) ∧ W.cell? ⟨w.heap.size, 1, none⟩ = some ((.slice kA1 kn1 kc1)) ∧ W.cell? ⟨w.heap.size + 1, 0, none⟩ = some ((.slice xA0 xn0 xc0)) ∧ W.cell? ⟨w.heap.size + 1, 1, none⟩ = some ((.slice xA1 xn1 xc1)) ∧ W.cell? ⟨w.heap.size + 1, 2, none⟩ = some ((.slice xA2 xn2 xc2)) ∧ W.cell? ⟨w.heap.size + 1, 3, none⟩ = some ((.slice xA3 xn3 xc3)) ∧ W.cell? ⟨w.heap.size + 1, 4, none⟩ = some ((.slice xA4 xn4 xc4)) ∧ W.cell? ⟨w.heap.size + 1, 5, none⟩ = some ((.slice xA5 xn5 xc5))) (by kernel_rfl) ⟨pk.drew.two.1, pk.drew.two.2.1, px.drew.six.1, px.drew.six.2.1, px.drew.six.2.2.1, px.drew.six.2.2.2.1, px.drew.six.2.2.2.2.1, px.drew.six.2.2.2.2.2.1⟩ (fun hS => ?_)
      (refine tk 0 hS ?_; (try simp only [Act.put, List.setIfInBounds_toArray, List.set_cons_zero, List.set_cons_succ]))
      (refine tk 2 hS ?_; (try simp only [Act.put, List.setIfInBounds_toArray, List.set_cons_zero, List.set_cons_succ]))
      refine on 1 ?_
      refine callH (by go_simp; (first | done | with_reducible rfl | exact ⟨rfl, rfl⟩)) ?_
      go_at_call 35
      refine (toKeys_L kI0 (RdL.cons (d := .ints kL1) kL1h.rd.b RdL.nil) kL1n).mono ?_
      rintro e w3 ⟨skA1, skn1, skc1, rfl, rsk, b3⟩
      clear hS
      have z3 := Below.size b3
      (try simp only [World.size_alloc, World.size_setCell, size_drew] at z3)
      have B3 : Below w.heap.size w w3 := Below.t b3
      have pk_ : Box w3 (w.heap.size) #[.int .i64 kI0, (.slice kA1 kn1 kc1)] 30 := (Box.b pk.drew b3)
      clear pk; have pk := pk_; clear pk_
      have px_ : Box w3 (w.heap.size + 1) #[(.slice xA0 xn0 xc0), (.slice xA1 xn1 xc1), (.slice xA2 xn2 xc2), (.slice xA3 xn3 xc3), (.slice xA4 xn4 xc4), (.slice xA5 xn5 xc5)] 64 := (Box.b px.drew b3)
      clear px; have px := px_; clear px_
      (try simp only [World.size_alloc, World.size_setCell, size_drew] at rsk)
      refine ⟨_, rfl, ⟨pk.two.1, pk.two.2.1, px.six.1, px.six.2.1, px.six.2.2.1, px.six.2.2.2.1, px.six.2.2.2.2.1, px.six.2.2.2.2.2.1⟩, fun hS => ?_⟩
      (try simp only [Act.put, List.setIfInBounds_toArray, List.set_cons_zero, List.set_cons_succ])
      refine on 3 ?_
      refine callH (by go_simp; (first | done | with_reducible rfl | exact ⟨rfl, rfl⟩)) ?_
      go_at_call 60
      refine (toTriple_L (RdL.cons (d := .ints xL0) xL0h.rd.b (RdL.cons (d := .ints xL1) xL1h.rd.b (RdL.cons (d := .ints xL2) xL2h.rd.b (RdL.cons (d := .ints xL3) xL3h.rd.b (RdL.cons (d := .ints xL4) xL4h.rd.b (RdL.cons (d := .ints xL5) xL5h.rd.b RdL.nil)))))) xL0n xL1n xL2n xL3n xL4n xL5n).mono ?_
      rintro e w4 ⟨sxA0, sxn0, sxc0, sxA1, sxn1, sxc1, sxA2, sxn2, sxc2, sxA3, sxn3, sxc3, sxA4, sxn4, sxc4, sxA5, sxn5, sxc5, rfl, rsx, b4⟩
      clear hS
      have z4 := Below.size b4
      (try simp only [World.size_alloc, World.size_setCell, size_drew] at z4)
      have B4 : Below w.heap.size w w4 := Below.t b4
      have rsk_ := (rsk.below b4)
      clear rsk; have rsk := rsk_; clear rsk_
      have pk_ : Box w4 (w.heap.size) #[.int .i64 kI0, (.slice kA1 kn1 kc1)] 30 := (Box.b pk b4)
      clear pk; have pk := pk_; clear pk_
      have px_ : Box w4 (w.heap.size + 1) #[(.slice xA0 xn0 xc0), (.slice xA1 xn1 xc1), (.slice xA2 xn2 xc2), (.slice xA3 xn3 xc3), (.slice xA4 xn4 xc4), (.slice xA5 xn5 xc5)] 64 := (Box.b px b4)
      clear px; have px := px_; clear px_
      (try simp only [World.size_alloc, World.size_setCell, size_drew] at rsx)
      refine ⟨_, rfl, ⟨pk.two.1, pk.two.2.1, px.six.1, px.six.2.1, px.six.2.2.1, px.six.2.2.2.1, px.six.2.2.2.2.1, px.six.2.2.2.2.2.1⟩, fun hS => ?_⟩
      (try simp only [Act.put, List.setIfInBounds_toArray, List.set_cons_zero, List.set_cons_succ])
      refine on 4 ?_
      refine callH (by go_simp; (first | done | with_reducible rfl | exact ⟨rfl, rfl⟩)) ?_
      go_at_call 59
      refine (sTripleOk_L kI0 rsk.rd kL1n rsx.rd xL0n xL1n xL2n xL3n xL4n xL5n).mono ?_
      rintro e w5 ⟨rfl, b5⟩
      clear hS
      have z5 := Below.size b5
      (try simp only [World.size_alloc, World.size_setCell, size_drew] at z5)
      have B5 : Below w.heap.size w w5 := Below.t b5
      have rsk_ := (rsk.below b5)
      clear rsk; have rsk := rsk_; clear rsk_
      have rsx_ := (rsx.below b5)
      clear rsx; have rsx := rsx_; clear rsx_
      have pk_ : Box w5 (w.heap.size) #[.int .i64 kI0, (.slice kA1 kn1 kc1)] 30 := (Box.b pk b5)
      clear pk; have pk := pk_; clear pk_
      have px_ : Box w5 (w.heap.size + 1) #[(.slice xA0 xn0 xc0), (.slice xA1 xn1 xc1), (.slice xA2 xn2 xc2), (.slice xA3 xn3 xc3), (.slice xA4 xn4 xc4), (.slice xA5 xn5 xc5)] 64 := (Box.b px b5)
      clear px; have px := px_; clear px_
      refine ⟨_, rfl, ⟨pk.two.1, pk.two.2.1, px.six.1, px.six.2.1, px.six.2.2.1, px.six.2.2.2.1, px.six.2.2.2.2.1, px.six.2.2.2.2.2.1⟩, fun hS => ?_⟩
      (try simp only [Act.put, List.setIfInBounds_toArray, List.set_cons_zero, List.set_cons_succ])
      (refine tk 5 hS ?_; (try simp only [Act.put, List.setIfInBounds_toArray, List.set_cons_zero, List.set_cons_succ]))
      clear hS
      refine wpAnyH_done (by kernel_rfl) ?_ _
      obtain ⟨cpk_0, cpk_1, fpk_0, fpk_1⟩ := pk.two
      have l_pk_0 : w.heap.size < w5.heap.size := by omega
      go_wp2_with fail
      refine (toKeys_L kI0 (RdL.cons (d := .ints kL1) kL1h.rd.b RdL.nil) kL1n).mono ?_
      rintro e w6 ⟨xkA1, xkn1, xkc1, rfl, rxk, b6⟩
      clear cpk_0 cpk_1 fpk_0 fpk_1 l_pk_0
      have z6 := b6.size
      try simp only [World.size_alloc, World.size_setCell, size_drew] at z6
      have B6 : Below w.heap.size w w6 := Below.t b6
      have pk_ : Box w6 (w.heap.size) #[.int .i64 kI0, (.slice kA1 kn1 kc1)] 30 := pk.below b6 (by first | omega | (simp [size_drew]; done) | (simp [size_drew]; omega))
      clear pk; have pk := pk_; clear pk_
      have px_ : Box w6 (w.heap.size + 1) #[(.slice xA0 xn0 xc0), (.slice xA1 xn1 xc1), (.slice xA2 xn2 xc2), (.slice xA3 xn3 xc3), (.slice xA4 xn4 xc4), (.slice xA5 xn5 xc5)] 64 := px.below b6 (by first | omega | (simp [size_drew]; done) | (simp [size_drew]; omega))
      clear px; have px := px_; clear px_
      try simp only [World.size_alloc, World.size_setCell, size_drew] at rxk
      obtain ⟨cpx_0, cpx_1, cpx_2, cpx_3, cpx_4, cpx_5, fpx_0, fpx_1, fpx_2, fpx_3, fpx_4, fpx_5⟩ := px.six
      have l_px_0 : w.heap.size + 1 < w6.heap.size := by omega
      have l_px_1 : w.heap.size + 1 < w6.heap.size + 1 := by omega
      go_wp2_with fail
      refine (toTriple_L (RdL.cons (d := .ints xL0) xL0h.rd.b (RdL.cons (d := .ints xL1) xL1h.rd.b (RdL.cons (d := .ints xL2) xL2h.rd.b (RdL.cons (d := .ints xL3) xL3h.rd.b (RdL.cons (d := .ints xL4) xL4h.rd.b (RdL.cons (d := .ints xL5) xL5h.rd.b RdL.nil)))))) xL0n xL1n xL2n xL3n xL4n xL5n).mono ?_
      rintro e w7 ⟨xxA0, xxn0, xxc0, xxA1, xxn1, xxc1, xxA2, xxn2, xxc2, xxA3, xxn3, xxc3, xxA4, xxn4, xxc4, xxA5, xxn5, xxc5, rfl, rxx, b7⟩
      clear cpx_0 cpx_1 cpx_2 cpx_3 cpx_4 cpx_5 fpx_0 fpx_1 fpx_2 fpx_3 fpx_4 fpx_5 l_px_0 l_px_1
      have z7 := b7.size
      try simp only [World.size_alloc, World.size_setCell, size_drew] at z7
      have B7 : Below w.heap.size w w7 := Below.t b7
      have rxk_ := (rxk.alloc _).below b7
      clear rxk; have rxk := rxk_; clear rxk_
      have pk_ : Box w7 (w.heap.size) #[.int .i64 kI0, (.slice kA1 kn1 kc1)] 30 := (pk.alloc _).below b7 (by first | omega | (simp [size_drew]; done) | (simp [size_drew]; omega))
      clear pk; have pk := pk_; clear pk_
      have px_ : Box w7 (w.heap.size + 1) #[(.slice xA0 xn0 xc0), (.slice xA1 xn1 xc1), (.slice xA2 xn2 xc2), (.slice xA3 xn3 xc3), (.slice xA4 xn4 xc4), (.slice xA5 xn5 xc5)] 64 := (px.alloc _).below b7 (by first | omega | (simp [size_drew]; done) | (simp [size_drew]; omega))
      clear px; have px := px_; clear px_
      have xk_ : Box w7 (w6.heap.size) #[.int .i64 kI0, (.slice xkA1 xkn1 xkc1)] 33 := (Box.new (g := w6.heap.size) _ #[.int .i64 kI0, (.slice xkA1 xkn1 xkc1)] 33 (by simp)).below b7 (by first | omega | (simp [size_drew]; done) | (simp [size_drew]; omega))
      have xk := xk_; clear xk_
      try simp only [World.size_alloc, World.size_setCell, size_drew] at rxx
      obtain ⟨cxk_0, cxk_1, fxk_0, fxk_1⟩ := xk.two
      have l_xk_0 : w6.heap.size < w7.heap.size := by omega
      have l_xk_1 : w6.heap.size < w7.heap.size + 1 := by omega
      go_wp2_with fail
      refine (iTripleOk_L kI0 (rxk.alloc _).rd kL1n (rxx.alloc _).rd xL0n xL1n xL2n xL3n xL4n xL5n).mono ?_
      rintro e w8 ⟨rfl, b8⟩
      clear cxk_0 cxk_1 fxk_0 fxk_1 l_xk_0 l_xk_1
      have z8 := b8.size
      try simp only [World.size_alloc, World.size_setCell, size_drew] at z8
      have B8 : Below w.heap.size w w8 := Below.t b8
      have rxk_ := (rxk.alloc _).below b8
      clear rxk; have rxk := rxk_; clear rxk_
      have rxx_ := (rxx.alloc _).below b8
      clear rxx; have rxx := rxx_; clear rxx_
      have pk_ : Box w8 (w.heap.size) #[.int .i64 kI0, (.slice kA1 kn1 kc1)] 30 := (pk.alloc _).below b8 (by first | omega | (simp [size_drew]; done) | (simp [size_drew]; omega))
      clear pk; have pk := pk_; clear pk_
      have px_ : Box w8 (w.heap.size + 1) #[(.slice xA0 xn0 xc0), (.slice xA1 xn1 xc1), (.slice xA2 xn2 xc2), (.slice xA3 xn3 xc3), (.slice xA4 xn4 xc4), (.slice xA5 xn5 xc5)] 64 := (px.alloc _).below b8 (by first | omega | (simp [size_drew]; done) | (simp [size_drew]; omega))
      clear px; have px := px_; clear px_
      have xk_ : Box w8 (w6.heap.size) #[.int .i64 kI0, (.slice xkA1 xkn1 xkc1)] 33 := (xk.alloc _).below b8 (by first | omega | (simp [size_drew]; done) | (simp [size_drew]; omega))
      clear xk; have xk := xk_; clear xk_
      have xx_ : Box w8 (w7.heap.size) #[(.slice xxA0 xxn0 xxc0), (.slice xxA1 xxn1 xxc1), (.slice xxA2 xxn2 xxc2), (.slice xxA3 xxn3 xxc3), (.slice xxA4 xxn4 xxc4), (.slice xxA5 xxn5 xxc5)] 68 := (Box.new (g := w7.heap.size) _ #[(.slice xxA0 xxn0 xxc0), (.slice xxA1 xxn1 xxc1), (.slice xxA2 xxn2 xxc2), (.slice xxA3 xxn3 xxc3), (.slice xxA4 xxn4 xxc4), (.slice xxA5 xxn5 xxc5)] 68 (by simp)).below b8 (by first | omega | (simp [size_drew]; done) | (simp [size_drew]; omega))
      have xx := xx_; clear xx_
      obtain ⟨cpk_0, cpk_1, fpk_0, fpk_1⟩ := pk.two
      have l_pk_0 : w.heap.size < w8.heap.size := by omega
      obtain ⟨cxk_0, cxk_1, fxk_0, fxk_1⟩ := xk.two
      have l_xk_0 : w6.heap.size < w8.heap.size := by omega
      go_wp2_with fail
      clear cpk_0 cpk_1 fpk_0 fpk_1 l_pk_0 cxk_0 cxk_1 fxk_0 fxk_1 l_xk_0
      refine wp_region_held_drew (S := fun W => W.cell? ⟨w.heap.size, 0, none⟩ = some (.int .i64 kI0) ∧ W.cell? ⟨w.heap.size, 1, none⟩ = some ((.slice kA1 kn1 kc1)) ∧ W.cell? ⟨w6.heap.size, 0, none⟩ = some (.int .i64 kI0) ∧ W.cell? ⟨w6.heap.size, 1, none⟩ = some ((.slice xkA1 xkn1 xkc1))) (by kernel_rfl) ⟨pk.drew.two.1, pk.drew.two.2.1, xk.drew.two.1, xk.drew.two.2.1⟩ (fun hS => ?_)
      (refine tk 0 hS ?_; (try simp only [Act.put, List.setIfInBounds_toArray, List.set_cons_zero, List.set_cons_succ]))
      (refine tk 1 hS ?_; (try simp only [Act.put, List.setIfInBounds_toArray, List.set_cons_zero, List.set_cons_succ]))
      refine on 2 ?_
      refine callH (by go_simp; (first | done | with_reducible rfl | exact ⟨rfl, rfl⟩)) ?_
      go_at_call 35
      refine (toKeys_L kI0 (RdL.cons (d := .ints kL1) kL1h.rd.b RdL.nil) kL1n).mono ?_
      rintro e w9 ⟨zkA1, zkn1, zkc1, rfl, rzk, b9⟩
      clear hS
      have z9 := Below.size b9
      (try simp only [World.size_alloc, World.size_setCell, size_drew] at z9)
      have B9 : Below w.heap.size w w9 := Below.t b9
      have rxk_ := (rxk.drew.below b9)
      clear rxk; have rxk := rxk_; clear rxk_
      have rxx_ := (rxx.drew.below b9)
      clear rxx; have rxx := rxx_; clear rxx_
      have pk_ : Box w9 (w.heap.size) #[.int .i64 kI0, (.slice kA1 kn1 kc1)] 30 := (Box.b pk.drew b9)
      clear pk; have pk := pk_; clear pk_
      have px_ : Box w9 (w.heap.size + 1) #[(.slice xA0 xn0 xc0), (.slice xA1 xn1 xc1), (.slice xA2 xn2 xc2), (.slice xA3 xn3 xc3), (.slice xA4 xn4 xc4), (.slice xA5 xn5 xc5)] 64 := (Box.b px.drew b9)
      clear px; have px := px_; clear px_
      have xk_ : Box w9 (w6.heap.size) #[.int .i64 kI0, (.slice xkA1 xkn1 xkc1)] 33 := (Box.b xk.drew b9)
      clear xk; have xk := xk_; clear xk_
      have xx_ : Box w9 (w7.heap.size) #[(.slice xxA0 xxn0 xxc0), (.slice xxA1 xxn1 xxc1), (.slice xxA2 xxn2 xxc2), (.slice xxA3 xxn3 xxc3), (.slice xxA4 xxn4 xxc4), (.slice xxA5 xxn5 xxc5)] 68 := (Box.b xx.drew b9)
      clear xx; have xx := xx_; clear xx_
      (try simp only [World.size_alloc, World.size_setCell, size_drew] at rzk)
      refine ⟨_, rfl, ⟨pk.two.1, pk.two.2.1, xk.two.1, xk.two.2.1⟩, fun hS => ?_⟩
      (try simp only [Act.put, List.setIfInBounds_toArray, List.set_cons_zero, List.set_cons_succ])
      refine on 3 ?_
      refine callH (by go_simp; (first | done | with_reducible rfl | exact ⟨rfl, rfl⟩)) ?_
      go_at_call 37
      refine (eqKeys_L kI0 rxk.rd rzk.rd kL1n).mono ?_
      rintro e w10 ⟨rfl, b10⟩
      clear hS
      have z10 := Below.size b10
      (try simp only [World.size_alloc, World.size_setCell, size_drew] at z10)
      have B10 : Below w.heap.size w w10 := Below.t b10
      have rxk_ := (rxk.below b10)
      clear rxk; have rxk := rxk_; clear rxk_
      have rxx_ := (rxx.below b10)
      clear rxx; have rxx := rxx_; clear rxx_
      have rzk_ := (rzk.below b10)
      clear rzk; have rzk := rzk_; clear rzk_
      have pk_ : Box w10 (w.heap.size) #[.int .i64 kI0, (.slice kA1 kn1 kc1)] 30 := (Box.b pk b10)
      clear pk; have pk := pk_; clear pk_
      have px_ : Box w10 (w.heap.size + 1) #[(.slice xA0 xn0 xc0), (.slice xA1 xn1 xc1), (.slice xA2 xn2 xc2), (.slice xA3 xn3 xc3), (.slice xA4 xn4 xc4), (.slice xA5 xn5 xc5)] 64 := (Box.b px b10)
      clear px; have px := px_; clear px_
      have xk_ : Box w10 (w6.heap.size) #[.int .i64 kI0, (.slice xkA1 xkn1 xkc1)] 33 := (Box.b xk b10)
      clear xk; have xk := xk_; clear xk_
      have xx_ : Box w10 (w7.heap.size) #[(.slice xxA0 xxn0 xxc0), (.slice xxA1 xxn1 xxc1), (.slice xxA2 xxn2 xxc2), (.slice xxA3 xxn3 xxc3), (.slice xxA4 xxn4 xxc4), (.slice xxA5 xxn5 xxc5)] 68 := (Box.b xx b10)
      clear xx; have xx := xx_; clear xx_
      refine ⟨_, rfl, ⟨pk.two.1, pk.two.2.1, xk.two.1, xk.two.2.1⟩, fun hS => ?_⟩
      (try simp only [Act.put, List.setIfInBounds_toArray, List.set_cons_zero, List.set_cons_succ])
      (refine tk 4 hS ?_; (try simp only [Act.put, List.setIfInBounds_toArray, List.set_cons_zero, List.set_cons_succ]))
      clear hS
      refine wpAnyH_done (by kernel_rfl) ?_ _
      obtain ⟨cpx_0, cpx_1, cpx_2, cpx_3, cpx_4, cpx_5, fpx_0, fpx_1, fpx_2, fpx_3, fpx_4, fpx_5⟩ := px.six
      have l_px_0 : w.heap.size + 1 < w10.heap.size := by omega
      obtain ⟨cxx_0, cxx_1, cxx_2, cxx_3, cxx_4, cxx_5, fxx_0, fxx_1, fxx_2, fxx_3, fxx_4, fxx_5⟩ := xx.six
      have l_xx_0 : w7.heap.size < w10.heap.size := by omega
      go_wp2_with fail
      clear cpx_0 cpx_1 cpx_2 cpx_3 cpx_4 cpx_5 fpx_0 fpx_1 fpx_2 fpx_3 fpx_4 fpx_5 l_px_0 cxx_0 cxx_1 cxx_2 cxx_3 cxx_4 cxx_5 fxx_0 fxx_1 fxx_2 fxx_3 fxx_4 fxx_5 l_xx_0
      refine wp_region_held_drew (S := fun W => W.cell? ⟨w.heap.size + 1, 0, none⟩ = some ((.slice xA0 xn0 xc0)) ∧ W.cell? ⟨w.heap.size + 1, 1, none⟩ = some ((.slice xA1 xn1 xc1)) ∧ W.cell? ⟨w.heap.size + 1, 2, none⟩ = some ((.slice xA2 xn2 xc2)) ∧ W.cell? ⟨w.heap.size + 1, 3, none⟩ = some ((.slice xA3 xn3 xc3)) ∧ W.cell? ⟨w.heap.size + 1, 4, none⟩ = some ((.slice xA4 xn4 xc4)) ∧ W.cell? ⟨w.heap.size + 1, 5, none⟩ = some ((.slice xA5 xn5 xc5)) ∧ W.cell? ⟨w7.heap.size, 0, none⟩ = some ((.slice xxA0 xxn0 xxc0)) ∧ W.cell? ⟨w7.heap.size, 1, none⟩ = some ((.slice xxA1 xxn1 xxc1)) ∧ W.cell? ⟨w7.heap.size, 2, none⟩ = some ((.slice xxA2 xxn2 xxc2)) ∧ W.cell? ⟨w7.heap.size, 3, none⟩ = some ((.slice xxA3 xxn3 xxc3)) ∧ W.cell? ⟨w7.heap.size, 4, none⟩ = some ((.slice xxA4 xxn4 xxc4)) ∧ W.cell? ⟨w7.heap.size, 5, none⟩ = some ((.slice xxA5 xxn5 xxc5))) (by kernel_rfl) ⟨px.drew.six.1, px.drew.six.2.1, px.drew.six.2.2.1, px.drew.six.2.2.2.1, px.drew.six.2.2.2.2.1, px.drew.six.2.2.2.2.2.1, xx.drew.six.1, xx.drew.six.2.1, xx.drew.six.2.2.1, xx.drew.six.2.2.2.1, xx.drew.six.2.2.2.2.1, xx.drew.six.2.2.2.2.2.1⟩ (fun hS => ?_)
      (refine tk 0 hS ?_; (try simp only [Act.put, List.setIfInBounds_toArray, List.set_cons_zero, List.set_cons_succ]))
      (refine tk 1 hS ?_; (try simp only [Act.put, List.setIfInBounds_toArray, List.set_cons_zero, List.set_cons_succ]))
      refine on 2 ?_
      refine callH (by go_simp; (first | done | with_reducible rfl | exact ⟨rfl, rfl⟩)) ?_
      go_at_call 60
      refine (toTriple_L (RdL.cons (d := .ints xL0) xL0h.rd.b (RdL.cons (d := .ints xL1) xL1h.rd.b (RdL.cons (d := .ints xL2) xL2h.rd.b (RdL.cons (d := .ints xL3) xL3h.rd.b (RdL.cons (d := .ints xL4) xL4h.rd.b (RdL.cons (d := .ints xL5) xL5h.rd.b RdL.nil)))))) xL0n xL1n xL2n xL3n xL4n xL5n).mono ?_
      rintro e w11 ⟨zxA0, zxn0, zxc0, zxA1, zxn1, zxc1, zxA2, zxn2, zxc2, zxA3, zxn3, zxc3, zxA4, zxn4, zxc4, zxA5, zxn5, zxc5, rfl, rzx, b11⟩
      clear hS
      have z11 := Below.size b11
      (try simp only [World.size_alloc, World.size_setCell, size_drew] at z11)
      have B11 : Below w.heap.size w w11 := Below.t b11
      have rxk_ := (rxk.drew.below b11)
      clear rxk; have rxk := rxk_; clear rxk_
      have rxx_ := (rxx.drew.below b11)
      clear rxx; have rxx := rxx_; clear rxx_
      have pk_ : Box w11 (w.heap.size) #[.int .i64 kI0, (.slice kA1 kn1 kc1)] 30 := (Box.b pk.drew b11)
      clear pk; have pk := pk_; clear pk_
      have px_ : Box w11 (w.heap.size + 1) #[(.slice xA0 xn0 xc0), (.slice xA1 xn1 xc1), (.slice xA2 xn2 xc2), (.slice xA3 xn3 xc3), (.slice xA4 xn4 xc4), (.slice xA5 xn5 xc5)] 64 := (Box.b px.drew b11)
      clear px; have px := px_; clear px_
      have xk_ : Box w11 (w6.heap.size) #[.int .i64 kI0, (.slice xkA1 xkn1 xkc1)] 33 := (Box.b xk.drew b11)
      clear xk; have xk := xk_; clear xk_
      have xx_ : Box w11 (w7.heap.size) #[(.slice xxA0 xxn0 xxc0), (.slice xxA1 xxn1 xxc1), (.slice xxA2 xxn2 xxc2), (.slice xxA3 xxn3 xxc3), (.slice xxA4 xxn4 xxc4), (.slice xxA5 xxn5 xxc5)] 68 := (Box.b xx.drew b11)
      clear xx; have xx := xx_; clear xx_
      (try simp only [World.size_alloc, World.size_setCell, size_drew] at rzx)
      refine ⟨_, rfl, ⟨px.six.1, px.six.2.1, px.six.2.2.1, px.six.2.2.2.1, px.six.2.2.2.2.1, px.six.2.2.2.2.2.1, xx.six.1, xx.six.2.1, xx.six.2.2.1, xx.six.2.2.2.1, xx.six.2.2.2.2.1, xx.six.2.2.2.2.2.1⟩, fun hS => ?_⟩
      (try simp only [Act.put, List.setIfInBounds_toArray, List.set_cons_zero, List.set_cons_succ])
      refine on 3 ?_
      refine callH (by go_simp; (first | done | with_reducible rfl | exact ⟨rfl, rfl⟩)) ?_
      go_at_call 62
      refine (eqTriple_L rxx.rd rzx.rd xL0n xL1n xL2n xL3n xL4n xL5n).mono ?_
      rintro e w12 ⟨rfl, b12⟩
      clear hS
      have z12 := Below.size b12
      (try simp only [World.size_alloc, World.size_setCell, size_drew] at z12)
      have B12 : Below w.heap.size w w12 := Below.t b12
      have rxk_ := (rxk.below b12)
      clear rxk; have rxk := rxk_; clear rxk_
      have rxx_ := (rxx.below b12)
      clear rxx; have rxx := rxx_; clear rxx_
      have rzx_ := (rzx.below b12)
      clear rzx; have rzx := rzx_; clear rzx_
      have pk_ : Box w12 (w.heap.size) #[.int .i64 kI0, (.slice kA1 kn1 kc1)] 30 := (Box.b pk b12)
      clear pk; have pk := pk_; clear pk_
      have px_ : Box w12 (w.heap.size + 1) #[(.slice xA0 xn0 xc0), (.slice xA1 xn1 xc1), (.slice xA2 xn2 xc2), (.slice xA3 xn3 xc3), (.slice xA4 xn4 xc4), (.slice xA5 xn5 xc5)] 64 := (Box.b px b12)
      clear px; have px := px_; clear px_
      have xk_ : Box w12 (w6.heap.size) #[.int .i64 kI0, (.slice xkA1 xkn1 xkc1)] 33 := (Box.b xk b12)
      clear xk; have xk := xk_; clear xk_
      have xx_ : Box w12 (w7.heap.size) #[(.slice xxA0 xxn0 xxc0), (.slice xxA1 xxn1 xxc1), (.slice xxA2 xxn2 xxc2), (.slice xxA3 xxn3 xxc3), (.slice xxA4 xxn4 xxc4), (.slice xxA5 xxn5 xxc5)] 68 := (Box.b xx b12)
      clear xx; have xx := xx_; clear xx_
      refine ⟨_, rfl, ⟨px.six.1, px.six.2.1, px.six.2.2.1, px.six.2.2.2.1, px.six.2.2.2.2.1, px.six.2.2.2.2.2.1, xx.six.1, xx.six.2.1, xx.six.2.2.1, xx.six.2.2.2.1, xx.six.2.2.2.2.1, xx.six.2.2.2.2.2.1⟩, fun hS => ?_⟩
      (try simp only [Act.put, List.setIfInBounds_toArray, List.set_cons_zero, List.set_cons_succ])
      (refine tk 4 hS ?_; (try simp only [Act.put, List.setIfInBounds_toArray, List.set_cons_zero, List.set_cons_succ]))
      clear hS
      refine wpAnyH_done (by kernel_rfl) ?_ _
      go_wp2_with fail
      go_ret
      exact ⟨rfl, B12⟩
    · skip
      go_enter Try.func13, Try.ntmps13
      go_wp2_with fail
      refine (szKeys_yes kI0 kL1h.b (1048576) _ (by first | rfl | simp) (by omega) (by omega)).mono ?_
      rintro e w1 ⟨rfl, b1⟩
      have z1 := b1.size
      try simp only [World.size_alloc, World.size_setCell, size_drew] at z1
      have B1 : Below w.heap.size w w1 := Below.t b1
      have pk_ : Box w1 (w.heap.size) #[.int .i64 kI0, (.slice kA1 kn1 kc1)] 30 := ((Box.new (g := w.heap.size) _ #[.int .i64 kI0, (.slice kA1 kn1 kc1)] 30 (by simp)).alloc _).below b1 (by first | omega | (simp [size_drew]; done) | (simp [size_drew]; omega))
      have pk := pk_; clear pk_
      have px_ : Box w1 (w.heap.size + 1) #[(.slice xA0 xn0 xc0), (.slice xA1 xn1 xc1), (.slice xA2 xn2 xc2), (.slice xA3 xn3 xc3), (.slice xA4 xn4 xc4), (.slice xA5 xn5 xc5)] 64 := (Box.new (g := w.heap.size + 1) _ #[(.slice xA0 xn0 xc0), (.slice xA1 xn1 xc1), (.slice xA2 xn2 xc2), (.slice xA3 xn3 xc3), (.slice xA4 xn4 xc4), (.slice xA5 xn5 xc5)] 64 (by simp)).below b1 (by first | omega | (simp [size_drew]; done) | (simp [size_drew]; omega))
      have px := px_; clear px_
      obtain ⟨cpx_0, cpx_1, cpx_2, cpx_3, cpx_4, cpx_5, fpx_0, fpx_1, fpx_2, fpx_3, fpx_4, fpx_5⟩ := px.six
      have l_px_0 : w.heap.size + 1 < w1.heap.size := by omega
      go_wp2_with fail
      refine (szTriple_no xL0h.b xL1h.b xL2h.b xL3h.b xL4h.b xL5h.b (1048576 - (kL1.length)) _ (by first | rfl | simp) (by omega) (by omega)).mono ?_
      rintro e w2 ⟨rfl, b2⟩
      clear cpx_0 cpx_1 cpx_2 cpx_3 cpx_4 cpx_5 fpx_0 fpx_1 fpx_2 fpx_3 fpx_4 fpx_5 l_px_0
      have z2 := b2.size
      try simp only [World.size_alloc, World.size_setCell, size_drew] at z2
      have B2 : Below w.heap.size w w2 := Below.t b2
      have pk_ : Box w2 (w.heap.size) #[.int .i64 kI0, (.slice kA1 kn1 kc1)] 30 := pk.below b2 (by first | omega | (simp [size_drew]; done) | (simp [size_drew]; omega))
      clear pk; have pk := pk_; clear pk_
      have px_ : Box w2 (w.heap.size + 1) #[(.slice xA0 xn0 xc0), (.slice xA1 xn1 xc1), (.slice xA2 xn2 xc2), (.slice xA3 xn3 xc3), (.slice xA4 xn4 xc4), (.slice xA5 xn5 xc5)] 64 := px.below b2 (by first | omega | (simp [size_drew]; done) | (simp [size_drew]; omega))
      clear px; have px := px_; clear px_
      go_wp2
      go_ret
      exact ⟨rfl, B2⟩
  · skip
    go_enter Try.func13, Try.ntmps13
    go_wp2_with fail
    refine (szKeys_no kI0 kL1h.b (1048576) _ (by first | rfl | simp) (by omega) (by omega)).mono ?_
    rintro e w1 ⟨rfl, b1⟩
    have z1 := b1.size
    try simp only [World.size_alloc, World.size_setCell, size_drew] at z1
    have B1 : Below w.heap.size w w1 := Below.t b1
    have pk_ : Box w1 (w.heap.size) #[.int .i64 kI0, (.slice kA1 kn1 kc1)] 30 := ((Box.new (g := w.heap.size) _ #[.int .i64 kI0, (.slice kA1 kn1 kc1)] 30 (by simp)).alloc _).below b1 (by first | omega | (simp [size_drew]; done) | (simp [size_drew]; omega))
    have pk := pk_; clear pk_
    have px_ : Box w1 (w.heap.size + 1) #[(.slice xA0 xn0 xc0), (.slice xA1 xn1 xc1), (.slice xA2 xn2 xc2), (.slice xA3 xn3 xc3), (.slice xA4 xn4 xc4), (.slice xA5 xn5 xc5)] 64 := (Box.new (g := w.heap.size + 1) _ #[(.slice xA0 xn0 xc0), (.slice xA1 xn1 xc1), (.slice xA2 xn2 xc2), (.slice xA3 xn3 xc3), (.slice xA4 xn4 xc4), (.slice xA5 xn5 xc5)] 64 (by simp)).below b1 (by first | omega | (simp [size_drew]; done) | (simp [size_drew]; omega))
    have px := px_; clear px_
    go_wp2
    go_ret
    exact ⟨rfl, B1⟩
end Go.Proofs.Ytllnnbmgdbinnaa

/- The walk of the law FnExactCountPassingR. Printed by laws2.py. -/
import Derived.Test.YtllnnbmgdbinnaaCntR
import Derived.Test.YtllnnbmgdbinnaaHk
import Derived.Test.YtllnnbmgdbinnaaAuto
namespace Go.Proofs.Ytllnnbmgdbinnaa
set_option linter.unusedSimpArgs false
set_option linter.unusedVariables false
open Go.RowKit
set_option maxRecDepth 100000 in
set_option maxHeartbeats 2000000 in
theorem walk_FnExactCountPassingR (kI0 : Int) (kL1V : Value) (kL1 : List Int) (xL0V : Value) (xL0 : List Int) (xL1V : Value) (xL1 : List Int) (xL2V : Value) (xL2 : List Int) (xL3V : Value) (xL3 : List Int) (xL4V : Value) (xL4 : List Int) (xL5V : Value) (xL5 : List Int) (yL0V : Value) (yL0 : List Int) (yL1V : Value) (yL1 : List Int) (yL2V : Value) (yL2 : List Int) (yL3V : Value) (yL3 : List Int) (yL4V : Value) (yL4 : List Int) (yL5V : Value) (yL5 : List Int) (w : World) (kL1h : Rd0 w kL1V kL1) (xL0h : Rd0 w xL0V xL0) (xL1h : Rd0 w xL1V xL1) (xL2h : Rd0 w xL2V xL2) (xL3h : Rd0 w xL3V xL3) (xL4h : Rd0 w xL4V xL4) (xL5h : Rd0 w xL5V xL5) (yL0h : Rd0 w yL0V yL0) (yL1h : Rd0 w yL1V yL1) (yL2h : Rd0 w yL2V yL2) (yL3h : Rd0 w yL3V yL3) (yL4h : Rd0 w yL4V yL4) (yL5h : Rd0 w yL5V yL5) :
    Calls Try.prog 19 #[.agg #[.int .i64 kI0, kL1V], .agg #[xL0V, xL1V, xL2V, xL3V, xL4V, xL5V], .agg #[yL0V, yL1V, yL2V, yL3V, yL4V, yL5V]] w fun e w' => e = .returned (.bool true) ∧ Below w.heap.size w w' := by
  obtain ⟨kA1, kn1, kc1, rfl, kL1x, kL1I⟩ := kL1h
  have kL1h : Rd0 w (.slice kA1 kn1 kc1) kL1 := ⟨_, _, _, rfl, kL1x, kL1I⟩
  obtain ⟨xA0, xn0, xc0, rfl, xL0x, xL0I⟩ := xL0h
  have xL0h : Rd0 w (.slice xA0 xn0 xc0) xL0 := ⟨_, _, _, rfl, xL0x, xL0I⟩
  obtain ⟨xA1, xn1, xc1, rfl, xL1x, xL1I⟩ := xL1h
  have xL1h : Rd0 w (.slice xA1 xn1 xc1) xL1 := ⟨_, _, _, rfl, xL1x, xL1I⟩
  obtain ⟨xA2, xn2, xc2, rfl, xL2x, xL2I⟩ := xL2h
  have xL2h : Rd0 w (.slice xA2 xn2 xc2) xL2 := ⟨_, _, _, rfl, xL2x, xL2I⟩
  obtain ⟨xA3, xn3, xc3, rfl, xL3x, xL3I⟩ := xL3h
  have xL3h : Rd0 w (.slice xA3 xn3 xc3) xL3 := ⟨_, _, _, rfl, xL3x, xL3I⟩
  obtain ⟨xA4, xn4, xc4, rfl, xL4x, xL4I⟩ := xL4h
  have xL4h : Rd0 w (.slice xA4 xn4 xc4) xL4 := ⟨_, _, _, rfl, xL4x, xL4I⟩
  obtain ⟨xA5, xn5, xc5, rfl, xL5x, xL5I⟩ := xL5h
  have xL5h : Rd0 w (.slice xA5 xn5 xc5) xL5 := ⟨_, _, _, rfl, xL5x, xL5I⟩
  obtain ⟨yA0, yn0, yc0, rfl, yL0x, yL0I⟩ := yL0h
  have yL0h : Rd0 w (.slice yA0 yn0 yc0) yL0 := ⟨_, _, _, rfl, yL0x, yL0I⟩
  obtain ⟨yA1, yn1, yc1, rfl, yL1x, yL1I⟩ := yL1h
  have yL1h : Rd0 w (.slice yA1 yn1 yc1) yL1 := ⟨_, _, _, rfl, yL1x, yL1I⟩
  obtain ⟨yA2, yn2, yc2, rfl, yL2x, yL2I⟩ := yL2h
  have yL2h : Rd0 w (.slice yA2 yn2 yc2) yL2 := ⟨_, _, _, rfl, yL2x, yL2I⟩
  obtain ⟨yA3, yn3, yc3, rfl, yL3x, yL3I⟩ := yL3h
  have yL3h : Rd0 w (.slice yA3 yn3 yc3) yL3 := ⟨_, _, _, rfl, yL3x, yL3I⟩
  obtain ⟨yA4, yn4, yc4, rfl, yL4x, yL4I⟩ := yL4h
  have yL4h : Rd0 w (.slice yA4 yn4 yc4) yL4 := ⟨_, _, _, rfl, yL4x, yL4I⟩
  obtain ⟨yA5, yn5, yc5, rfl, yL5x, yL5I⟩ := yL5h
  have yL5h : Rd0 w (.slice yA5 yn5 yc5) yL5 := ⟨_, _, _, rfl, yL5x, yL5I⟩
  by_cases sz0 : (kL1.length) ≤ 1048576
  · skip
    by_cases sz1 : (kL1.length) + (xL0.length + xL1.length + xL2.length + xL3.length + xL4.length + xL5.length) ≤ 1048576
    · skip
      by_cases sz2 : (kL1.length) + (xL0.length + xL1.length + xL2.length + xL3.length + xL4.length + xL5.length) + (yL0.length + yL1.length + yL2.length + yL3.length + yL4.length + yL5.length) ≤ 1048576
      · skip
        have kL1n : kL1.length ≤ 1048576 := by omega
        have xL0n : xL0.length ≤ 1048576 := by omega
        have xL1n : xL1.length ≤ 1048576 := by omega
        have xL2n : xL2.length ≤ 1048576 := by omega
        have xL3n : xL3.length ≤ 1048576 := by omega
        have xL4n : xL4.length ≤ 1048576 := by omega
        have xL5n : xL5.length ≤ 1048576 := by omega
        have yL0n : yL0.length ≤ 1048576 := by omega
        have yL1n : yL1.length ≤ 1048576 := by omega
        have yL2n : yL2.length ≤ 1048576 := by omega
        have yL3n : yL3.length ≤ 1048576 := by omega
        have yL4n : yL4.length ≤ 1048576 := by omega
        have yL5n : yL5.length ≤ 1048576 := by omega
        go_enter Try.func19, Try.ntmps19
        go_wp2_with fail
        refine (szKeys_yes kI0 kL1h.b (1048576) _ (by first | rfl | simp) (by omega) (by omega)).mono ?_
        rintro e w1 ⟨rfl, b1⟩
        have z1 := b1.size
        try simp only [World.size_alloc, World.size_setCell, size_drew] at z1
        have B1 : Below w.heap.size w w1 := Below.t b1
        have pk_ : Box w1 (w.heap.size) #[.int .i64 kI0, (.slice kA1 kn1 kc1)] 30 := (((Box.new (g := w.heap.size) _ #[.int .i64 kI0, (.slice kA1 kn1 kc1)] 30 (by simp)).alloc _).alloc _).below b1 (by first | omega | (simp [size_drew]; done) | (simp [size_drew]; omega))
        have pk := pk_; clear pk_
        have px_ : Box w1 (w.heap.size + 1) #[(.slice xA0 xn0 xc0), (.slice xA1 xn1 xc1), (.slice xA2 xn2 xc2), (.slice xA3 xn3 xc3), (.slice xA4 xn4 xc4), (.slice xA5 xn5 xc5)] 64 := ((Box.new (g := w.heap.size + 1) _ #[(.slice xA0 xn0 xc0), (.slice xA1 xn1 xc1), (.slice xA2 xn2 xc2), (.slice xA3 xn3 xc3), (.slice xA4 xn4 xc4), (.slice xA5 xn5 xc5)] 64 (by simp)).alloc _).below b1 (by first | omega | (simp [size_drew]; done) | (simp [size_drew]; omega))
        have px := px_; clear px_
        have py_ : Box w1 (w.heap.size + 1 + 1) #[(.slice yA0 yn0 yc0), (.slice yA1 yn1 yc1), (.slice yA2 yn2 yc2), (.slice yA3 yn3 yc3), (.slice yA4 yn4 yc4), (.slice yA5 yn5 yc5)] 64 := (Box.new (g := w.heap.size + 1 + 1) _ #[(.slice yA0 yn0 yc0), (.slice yA1 yn1 yc1), (.slice yA2 yn2 yc2), (.slice yA3 yn3 yc3), (.slice yA4 yn4 yc4), (.slice yA5 yn5 yc5)] 64 (by simp)).below b1 (by first | omega | (simp [size_drew]; done) | (simp [size_drew]; omega))
        have py := py_; clear py_
        obtain ⟨cpx_0, cpx_1, cpx_2, cpx_3, cpx_4, cpx_5, fpx_0, fpx_1, fpx_2, fpx_3, fpx_4, fpx_5⟩ := px.six
        have l_px_0 : w.heap.size + 1 < w1.heap.size := by omega
        go_wp2_with fail
        refine (szTriple_yes xL0h.b xL1h.b xL2h.b xL3h.b xL4h.b xL5h.b (1048576 - (kL1.length)) _ (by first | rfl | simp) (by omega) (by omega)).mono ?_
        rintro e w2 ⟨rfl, b2⟩
        clear cpx_0 cpx_1 cpx_2 cpx_3 cpx_4 cpx_5 fpx_0 fpx_1 fpx_2 fpx_3 fpx_4 fpx_5 l_px_0
        have z2 := b2.size
        try simp only [World.size_alloc, World.size_setCell, size_drew] at z2
        have B2 : Below w.heap.size w w2 := Below.t b2
        have pk_ : Box w2 (w.heap.size) #[.int .i64 kI0, (.slice kA1 kn1 kc1)] 30 := pk.below b2 (by first | omega | (simp [size_drew]; done) | (simp [size_drew]; omega))
        clear pk; have pk := pk_; clear pk_
        have px_ : Box w2 (w.heap.size + 1) #[(.slice xA0 xn0 xc0), (.slice xA1 xn1 xc1), (.slice xA2 xn2 xc2), (.slice xA3 xn3 xc3), (.slice xA4 xn4 xc4), (.slice xA5 xn5 xc5)] 64 := px.below b2 (by first | omega | (simp [size_drew]; done) | (simp [size_drew]; omega))
        clear px; have px := px_; clear px_
        have py_ : Box w2 (w.heap.size + 1 + 1) #[(.slice yA0 yn0 yc0), (.slice yA1 yn1 yc1), (.slice yA2 yn2 yc2), (.slice yA3 yn3 yc3), (.slice yA4 yn4 yc4), (.slice yA5 yn5 yc5)] 64 := py.below b2 (by first | omega | (simp [size_drew]; done) | (simp [size_drew]; omega))
        clear py; have py := py_; clear py_
        obtain ⟨cpy_0, cpy_1, cpy_2, cpy_3, cpy_4, cpy_5, fpy_0, fpy_1, fpy_2, fpy_3, fpy_4, fpy_5⟩ := py.six
        have l_py_0 : w.heap.size + 1 + 1 < w2.heap.size := by omega
        go_wp2_with fail
        refine (szTriple_yes yL0h.b yL1h.b yL2h.b yL3h.b yL4h.b yL5h.b (1048576 - (kL1.length) - (xL0.length + xL1.length + xL2.length + xL3.length + xL4.length + xL5.length)) _ (by first | rfl | simp) (by omega) (by omega)).mono ?_
        rintro e w3 ⟨rfl, b3⟩
        clear cpy_0 cpy_1 cpy_2 cpy_3 cpy_4 cpy_5 fpy_0 fpy_1 fpy_2 fpy_3 fpy_4 fpy_5 l_py_0
        have z3 := b3.size
        try simp only [World.size_alloc, World.size_setCell, size_drew] at z3
        have B3 : Below w.heap.size w w3 := Below.t b3
        have pk_ : Box w3 (w.heap.size) #[.int .i64 kI0, (.slice kA1 kn1 kc1)] 30 := pk.below b3 (by first | omega | (simp [size_drew]; done) | (simp [size_drew]; omega))
        clear pk; have pk := pk_; clear pk_
        have px_ : Box w3 (w.heap.size + 1) #[(.slice xA0 xn0 xc0), (.slice xA1 xn1 xc1), (.slice xA2 xn2 xc2), (.slice xA3 xn3 xc3), (.slice xA4 xn4 xc4), (.slice xA5 xn5 xc5)] 64 := px.below b3 (by first | omega | (simp [size_drew]; done) | (simp [size_drew]; omega))
        clear px; have px := px_; clear px_
        have py_ : Box w3 (w.heap.size + 1 + 1) #[(.slice yA0 yn0 yc0), (.slice yA1 yn1 yc1), (.slice yA2 yn2 yc2), (.slice yA3 yn3 yc3), (.slice yA4 yn4 yc4), (.slice yA5 yn5 yc5)] 64 := py.below b3 (by first | omega | (simp [size_drew]; done) | (simp [size_drew]; omega))
        clear py; have py := py_; clear py_
        obtain ⟨cpk_0, cpk_1, fpk_0, fpk_1⟩ := pk.two
        have l_pk_0 : w.heap.size < w3.heap.size := by omega
        obtain ⟨cpx_0, cpx_1, cpx_2, cpx_3, cpx_4, cpx_5, fpx_0, fpx_1, fpx_2, fpx_3, fpx_4, fpx_5⟩ := px.six
        have l_px_0 : w.heap.size + 1 < w3.heap.size := by omega
        obtain ⟨cpy_0, cpy_1, cpy_2, cpy_3, cpy_4, cpy_5, fpy_0, fpy_1, fpy_2, fpy_3, fpy_4, fpy_5⟩ := py.six
        have l_py_0 : w.heap.size + 1 + 1 < w3.heap.size := by omega
        go_wp2_with fail
        clear cpk_0 cpk_1 fpk_0 fpk_1 l_pk_0 cpx_0 cpx_1 cpx_2 cpx_3 cpx_4 cpx_5 fpx_0 fpx_1 fpx_2 fpx_3 fpx_4 fpx_5 l_px_0 cpy_0 cpy_1 cpy_2 cpy_3 cpy_4 cpy_5 fpy_0 fpy_1 fpy_2 fpy_3 fpy_4 fpy_5 l_py_0
        refine wp_region_held_drew (S := fun W => W.cell? ⟨w.heap.size, 0, none⟩ = some (.int .i64 kI0) ∧ W.cell? ⟨w.heap.size, 1, none⟩ = some ((.slice kA1 kn1 kc1)) ∧ W.cell? ⟨w.heap.size + 1, 0, none⟩ = some ((.slice xA0 xn0 xc0)) ∧ W.cell? ⟨w.heap.size + 1, 1, none⟩ = some ((.slice xA1 xn1 xc1)) ∧ W.cell? ⟨w.heap.size + 1, 2, none⟩ = some ((.slice xA2 xn2 xc2)) ∧ W.cell? ⟨w.heap.size + 1, 3, none⟩ = some ((.slice xA3 xn3 xc3)) ∧ W.cell? ⟨w.heap.size + 1, 4, none⟩ = some ((.slice xA4 xn4 xc4)) ∧ W.cell? ⟨w.heap.size + 1, 5, none⟩ = some ((.slice xA5 xn5 xc5)) ∧ W.cell? ⟨w.heap.size + 1 + 1, 0, none⟩ = some ((.slice yA0 yn0 yc0)) ∧ W.cell? ⟨w.heap.size + 1 + 1, 1, none⟩ = some ((.slice yA1 yn1 yc1)) ∧ W.cell? ⟨w.heap.size + 1 + 1, 2, none⟩ = some ((.slice yA2 yn2 yc2)) ∧ W.cell? ⟨w.heap.size + 1 + 1, 3, none⟩ = some ((.slice yA3 yn3 yc3)) ∧ W.cell? ⟨w.heap.size + 1 + 1, 4, none⟩ = some ((.slice yA4 yn4 yc4)) ∧ W.cell? ⟨w.heap.size + 1 + 1, 5, none⟩ = some ((.slice yA5 yn5 yc5))) (by kernel_rfl) ⟨pk.drew.two.1, pk.drew.two.2.1, px.drew.six.1, px.drew.six.2.1, px.drew.six.2.2.1, px.drew.six.2.2.2.1, px.drew.six.2.2.2.2.1, px.drew.six.2.2.2.2.2.1, py.drew.six.1, py.drew.six.2.1, py.drew.six.2.2.1, py.drew.six.2.2.2.1, py.drew.six.2.2.2.2.1, py.drew.six.2.2.2.2.2.1⟩ (fun hS => ?_)
        (refine tk 0 hS ?_; (try simp only [Act.put, List.setIfInBounds_toArray, List.set_cons_zero, List.set_cons_succ]))
        (refine tk 2 hS ?_; (try simp only [Act.put, List.setIfInBounds_toArray, List.set_cons_zero, List.set_cons_succ]))
        (refine tk 4 hS ?_; (try simp only [Act.put, List.setIfInBounds_toArray, List.set_cons_zero, List.set_cons_succ]))
        refine on 1 ?_
        refine callH (by go_simp; (first | done | with_reducible rfl | exact ⟨rfl, rfl⟩)) ?_
        go_at_call 35
        refine (toKeys_L kI0 (RdL.cons (d := .ints kL1) kL1h.rd.b RdL.nil) kL1n).mono ?_
        rintro e w4 ⟨skA1, skn1, skc1, rfl, rsk, b4⟩
        clear hS
        have z4 := Below.size b4
        (try simp only [World.size_alloc, World.size_setCell, size_drew] at z4)
        have B4 : Below w.heap.size w w4 := Below.t b4
        have pk_ : Box w4 (w.heap.size) #[.int .i64 kI0, (.slice kA1 kn1 kc1)] 30 := (Box.b pk.drew b4)
        clear pk; have pk := pk_; clear pk_
        have px_ : Box w4 (w.heap.size + 1) #[(.slice xA0 xn0 xc0), (.slice xA1 xn1 xc1), (.slice xA2 xn2 xc2), (.slice xA3 xn3 xc3), (.slice xA4 xn4 xc4), (.slice xA5 xn5 xc5)] 64 := (Box.b px.drew b4)
        clear px; have px := px_; clear px_
        have py_ : Box w4 (w.heap.size + 1 + 1) #[(.slice yA0 yn0 yc0), (.slice yA1 yn1 yc1), (.slice yA2 yn2 yc2), (.slice yA3 yn3 yc3), (.slice yA4 yn4 yc4), (.slice yA5 yn5 yc5)] 64 := (Box.b py.drew b4)
        clear py; have py := py_; clear py_
        (try simp only [World.size_alloc, World.size_setCell, size_drew] at rsk)
        refine ⟨_, rfl, ⟨pk.two.1, pk.two.2.1, px.six.1, px.six.2.1, px.six.2.2.1, px.six.2.2.2.1, px.six.2.2.2.2.1, px.six.2.2.2.2.2.1, py.six.1, py.six.2.1, py.six.2.2.1, py.six.2.2.2.1, py.six.2.2.2.2.1, py.six.2.2.2.2.2.1⟩, fun hS => ?_⟩
        (try simp only [Act.put, List.setIfInBounds_toArray, List.set_cons_zero, List.set_cons_succ])
        refine on 3 ?_
        refine callH (by go_simp; (first | done | with_reducible rfl | exact ⟨rfl, rfl⟩)) ?_
        go_at_call 60
        refine (toTriple_L (RdL.cons (d := .ints xL0) xL0h.rd.b (RdL.cons (d := .ints xL1) xL1h.rd.b (RdL.cons (d := .ints xL2) xL2h.rd.b (RdL.cons (d := .ints xL3) xL3h.rd.b (RdL.cons (d := .ints xL4) xL4h.rd.b (RdL.cons (d := .ints xL5) xL5h.rd.b RdL.nil)))))) xL0n xL1n xL2n xL3n xL4n xL5n).mono ?_
        rintro e w5 ⟨sxA0, sxn0, sxc0, sxA1, sxn1, sxc1, sxA2, sxn2, sxc2, sxA3, sxn3, sxc3, sxA4, sxn4, sxc4, sxA5, sxn5, sxc5, rfl, rsx, b5⟩
        clear hS
        have z5 := Below.size b5
        (try simp only [World.size_alloc, World.size_setCell, size_drew] at z5)
        have B5 : Below w.heap.size w w5 := Below.t b5
        have rsk_ := (rsk.below b5)
        clear rsk; have rsk := rsk_; clear rsk_
        have pk_ : Box w5 (w.heap.size) #[.int .i64 kI0, (.slice kA1 kn1 kc1)] 30 := (Box.b pk b5)
        clear pk; have pk := pk_; clear pk_
        have px_ : Box w5 (w.heap.size + 1) #[(.slice xA0 xn0 xc0), (.slice xA1 xn1 xc1), (.slice xA2 xn2 xc2), (.slice xA3 xn3 xc3), (.slice xA4 xn4 xc4), (.slice xA5 xn5 xc5)] 64 := (Box.b px b5)
        clear px; have px := px_; clear px_
        have py_ : Box w5 (w.heap.size + 1 + 1) #[(.slice yA0 yn0 yc0), (.slice yA1 yn1 yc1), (.slice yA2 yn2 yc2), (.slice yA3 yn3 yc3), (.slice yA4 yn4 yc4), (.slice yA5 yn5 yc5)] 64 := (Box.b py b5)
        clear py; have py := py_; clear py_
        (try simp only [World.size_alloc, World.size_setCell, size_drew] at rsx)
        refine ⟨_, rfl, ⟨pk.two.1, pk.two.2.1, px.six.1, px.six.2.1, px.six.2.2.1, px.six.2.2.2.1, px.six.2.2.2.2.1, px.six.2.2.2.2.2.1, py.six.1, py.six.2.1, py.six.2.2.1, py.six.2.2.2.1, py.six.2.2.2.2.1, py.six.2.2.2.2.2.1⟩, fun hS => ?_⟩
        (try simp only [Act.put, List.setIfInBounds_toArray, List.set_cons_zero, List.set_cons_succ])
        refine on 5 ?_
        refine callH (by go_simp; (first | done | with_reducible rfl | exact ⟨rfl, rfl⟩)) ?_
        go_at_call 60
        refine (toTriple_L (RdL.cons (d := .ints yL0) yL0h.rd.b (RdL.cons (d := .ints yL1) yL1h.rd.b (RdL.cons (d := .ints yL2) yL2h.rd.b (RdL.cons (d := .ints yL3) yL3h.rd.b (RdL.cons (d := .ints yL4) yL4h.rd.b (RdL.cons (d := .ints yL5) yL5h.rd.b RdL.nil)))))) yL0n yL1n yL2n yL3n yL4n yL5n).mono ?_
        rintro e w6 ⟨syA0, syn0, syc0, syA1, syn1, syc1, syA2, syn2, syc2, syA3, syn3, syc3, syA4, syn4, syc4, syA5, syn5, syc5, rfl, rsy, b6⟩
        clear hS
        have z6 := Below.size b6
        (try simp only [World.size_alloc, World.size_setCell, size_drew] at z6)
        have B6 : Below w.heap.size w w6 := Below.t b6
        have rsk_ := (rsk.below b6)
        clear rsk; have rsk := rsk_; clear rsk_
        have rsx_ := (rsx.below b6)
        clear rsx; have rsx := rsx_; clear rsx_
        have pk_ : Box w6 (w.heap.size) #[.int .i64 kI0, (.slice kA1 kn1 kc1)] 30 := (Box.b pk b6)
        clear pk; have pk := pk_; clear pk_
        have px_ : Box w6 (w.heap.size + 1) #[(.slice xA0 xn0 xc0), (.slice xA1 xn1 xc1), (.slice xA2 xn2 xc2), (.slice xA3 xn3 xc3), (.slice xA4 xn4 xc4), (.slice xA5 xn5 xc5)] 64 := (Box.b px b6)
        clear px; have px := px_; clear px_
        have py_ : Box w6 (w.heap.size + 1 + 1) #[(.slice yA0 yn0 yc0), (.slice yA1 yn1 yc1), (.slice yA2 yn2 yc2), (.slice yA3 yn3 yc3), (.slice yA4 yn4 yc4), (.slice yA5 yn5 yc5)] 64 := (Box.b py b6)
        clear py; have py := py_; clear py_
        (try simp only [World.size_alloc, World.size_setCell, size_drew] at rsy)
        refine ⟨_, rfl, ⟨pk.two.1, pk.two.2.1, px.six.1, px.six.2.1, px.six.2.2.1, px.six.2.2.2.1, px.six.2.2.2.2.1, px.six.2.2.2.2.2.1, py.six.1, py.six.2.1, py.six.2.2.1, py.six.2.2.2.1, py.six.2.2.2.2.1, py.six.2.2.2.2.2.1⟩, fun hS => ?_⟩
        (try simp only [Act.put, List.setIfInBounds_toArray, List.set_cons_zero, List.set_cons_succ])
        refine on 6 ?_
        refine callH (by go_simp; (first | done | with_reducible rfl | exact ⟨rfl, rfl⟩)) ?_
        go_at_call 76
        refine (sCountPassingR_L kI0 rsk.rd kL1n rsx.rd xL0n xL1n xL2n xL3n xL4n xL5n rsy.rd yL0n yL1n yL2n yL3n yL4n yL5n).mono ?_
        rintro e w7 ⟨rfl, b7⟩
        clear hS
        have z7 := Below.size b7
        (try simp only [World.size_alloc, World.size_setCell, size_drew] at z7)
        have B7 : Below w.heap.size w w7 := Below.t b7
        have rsk_ := (rsk.below b7)
        clear rsk; have rsk := rsk_; clear rsk_
        have rsx_ := (rsx.below b7)
        clear rsx; have rsx := rsx_; clear rsx_
        have rsy_ := (rsy.below b7)
        clear rsy; have rsy := rsy_; clear rsy_
        have pk_ : Box w7 (w.heap.size) #[.int .i64 kI0, (.slice kA1 kn1 kc1)] 30 := (Box.b pk b7)
        clear pk; have pk := pk_; clear pk_
        have px_ : Box w7 (w.heap.size + 1) #[(.slice xA0 xn0 xc0), (.slice xA1 xn1 xc1), (.slice xA2 xn2 xc2), (.slice xA3 xn3 xc3), (.slice xA4 xn4 xc4), (.slice xA5 xn5 xc5)] 64 := (Box.b px b7)
        clear px; have px := px_; clear px_
        have py_ : Box w7 (w.heap.size + 1 + 1) #[(.slice yA0 yn0 yc0), (.slice yA1 yn1 yc1), (.slice yA2 yn2 yc2), (.slice yA3 yn3 yc3), (.slice yA4 yn4 yc4), (.slice yA5 yn5 yc5)] 64 := (Box.b py b7)
        clear py; have py := py_; clear py_
        refine ⟨_, rfl, ⟨pk.two.1, pk.two.2.1, px.six.1, px.six.2.1, px.six.2.2.1, px.six.2.2.2.1, px.six.2.2.2.2.1, px.six.2.2.2.2.2.1, py.six.1, py.six.2.1, py.six.2.2.1, py.six.2.2.2.1, py.six.2.2.2.2.1, py.six.2.2.2.2.2.1⟩, fun hS => ?_⟩
        (try simp only [Act.put, List.setIfInBounds_toArray, List.set_cons_zero, List.set_cons_succ])
        (refine tk 7 hS ?_; (try simp only [Act.put, List.setIfInBounds_toArray, List.set_cons_zero, List.set_cons_succ]))
        clear hS
        refine wpAnyH_done (by kernel_rfl) ?_ _
        obtain ⟨cpk_0, cpk_1, fpk_0, fpk_1⟩ := pk.two
        have l_pk_0 : w.heap.size < w7.heap.size := by omega
        go_wp2_with fail
        refine (toKeys_L kI0 (RdL.cons (d := .ints kL1) kL1h.rd.b RdL.nil) kL1n).mono ?_
        rintro e w8 ⟨xkA1, xkn1, xkc1, rfl, rxk, b8⟩
        clear cpk_0 cpk_1 fpk_0 fpk_1 l_pk_0
        have z8 := b8.size
        try simp only [World.size_alloc, World.size_setCell, size_drew] at z8
        have B8 : Below w.heap.size w w8 := Below.t b8
        have pk_ : Box w8 (w.heap.size) #[.int .i64 kI0, (.slice kA1 kn1 kc1)] 30 := pk.below b8 (by first | omega | (simp [size_drew]; done) | (simp [size_drew]; omega))
        clear pk; have pk := pk_; clear pk_
        have px_ : Box w8 (w.heap.size + 1) #[(.slice xA0 xn0 xc0), (.slice xA1 xn1 xc1), (.slice xA2 xn2 xc2), (.slice xA3 xn3 xc3), (.slice xA4 xn4 xc4), (.slice xA5 xn5 xc5)] 64 := px.below b8 (by first | omega | (simp [size_drew]; done) | (simp [size_drew]; omega))
        clear px; have px := px_; clear px_
        have py_ : Box w8 (w.heap.size + 1 + 1) #[(.slice yA0 yn0 yc0), (.slice yA1 yn1 yc1), (.slice yA2 yn2 yc2), (.slice yA3 yn3 yc3), (.slice yA4 yn4 yc4), (.slice yA5 yn5 yc5)] 64 := py.below b8 (by first | omega | (simp [size_drew]; done) | (simp [size_drew]; omega))
        clear py; have py := py_; clear py_
        try simp only [World.size_alloc, World.size_setCell, size_drew] at rxk
        obtain ⟨cpx_0, cpx_1, cpx_2, cpx_3, cpx_4, cpx_5, fpx_0, fpx_1, fpx_2, fpx_3, fpx_4, fpx_5⟩ := px.six
        have l_px_0 : w.heap.size + 1 < w8.heap.size := by omega
        have l_px_1 : w.heap.size + 1 < w8.heap.size + 1 := by omega
        go_wp2_with fail
        refine (toTriple_L (RdL.cons (d := .ints xL0) xL0h.rd.b (RdL.cons (d := .ints xL1) xL1h.rd.b (RdL.cons (d := .ints xL2) xL2h.rd.b (RdL.cons (d := .ints xL3) xL3h.rd.b (RdL.cons (d := .ints xL4) xL4h.rd.b (RdL.cons (d := .ints xL5) xL5h.rd.b RdL.nil)))))) xL0n xL1n xL2n xL3n xL4n xL5n).mono ?_
        rintro e w9 ⟨xxA0, xxn0, xxc0, xxA1, xxn1, xxc1, xxA2, xxn2, xxc2, xxA3, xxn3, xxc3, xxA4, xxn4, xxc4, xxA5, xxn5, xxc5, rfl, rxx, b9⟩
        clear cpx_0 cpx_1 cpx_2 cpx_3 cpx_4 cpx_5 fpx_0 fpx_1 fpx_2 fpx_3 fpx_4 fpx_5 l_px_0 l_px_1
        have z9 := b9.size
        try simp only [World.size_alloc, World.size_setCell, size_drew] at z9
        have B9 : Below w.heap.size w w9 := Below.t b9
        have rxk_ := (rxk.alloc _).below b9
        clear rxk; have rxk := rxk_; clear rxk_
        have pk_ : Box w9 (w.heap.size) #[.int .i64 kI0, (.slice kA1 kn1 kc1)] 30 := (pk.alloc _).below b9 (by first | omega | (simp [size_drew]; done) | (simp [size_drew]; omega))
        clear pk; have pk := pk_; clear pk_
        have px_ : Box w9 (w.heap.size + 1) #[(.slice xA0 xn0 xc0), (.slice xA1 xn1 xc1), (.slice xA2 xn2 xc2), (.slice xA3 xn3 xc3), (.slice xA4 xn4 xc4), (.slice xA5 xn5 xc5)] 64 := (px.alloc _).below b9 (by first | omega | (simp [size_drew]; done) | (simp [size_drew]; omega))
        clear px; have px := px_; clear px_
        have py_ : Box w9 (w.heap.size + 1 + 1) #[(.slice yA0 yn0 yc0), (.slice yA1 yn1 yc1), (.slice yA2 yn2 yc2), (.slice yA3 yn3 yc3), (.slice yA4 yn4 yc4), (.slice yA5 yn5 yc5)] 64 := (py.alloc _).below b9 (by first | omega | (simp [size_drew]; done) | (simp [size_drew]; omega))
        clear py; have py := py_; clear py_
        have xk_ : Box w9 (w8.heap.size) #[.int .i64 kI0, (.slice xkA1 xkn1 xkc1)] 33 := (Box.new (g := w8.heap.size) _ #[.int .i64 kI0, (.slice xkA1 xkn1 xkc1)] 33 (by simp)).below b9 (by first | omega | (simp [size_drew]; done) | (simp [size_drew]; omega))
        have xk := xk_; clear xk_
        try simp only [World.size_alloc, World.size_setCell, size_drew] at rxx
        obtain ⟨cpy_0, cpy_1, cpy_2, cpy_3, cpy_4, cpy_5, fpy_0, fpy_1, fpy_2, fpy_3, fpy_4, fpy_5⟩ := py.six
        have l_py_0 : w.heap.size + 1 + 1 < w9.heap.size := by omega
        have l_py_1 : w.heap.size + 1 + 1 < w9.heap.size + 1 := by omega
        go_wp2_with fail
        refine (toTriple_L (RdL.cons (d := .ints yL0) yL0h.rd.b (RdL.cons (d := .ints yL1) yL1h.rd.b (RdL.cons (d := .ints yL2) yL2h.rd.b (RdL.cons (d := .ints yL3) yL3h.rd.b (RdL.cons (d := .ints yL4) yL4h.rd.b (RdL.cons (d := .ints yL5) yL5h.rd.b RdL.nil)))))) yL0n yL1n yL2n yL3n yL4n yL5n).mono ?_
        rintro e w10 ⟨xyA0, xyn0, xyc0, xyA1, xyn1, xyc1, xyA2, xyn2, xyc2, xyA3, xyn3, xyc3, xyA4, xyn4, xyc4, xyA5, xyn5, xyc5, rfl, rxy, b10⟩
        clear cpy_0 cpy_1 cpy_2 cpy_3 cpy_4 cpy_5 fpy_0 fpy_1 fpy_2 fpy_3 fpy_4 fpy_5 l_py_0 l_py_1
        have z10 := b10.size
        try simp only [World.size_alloc, World.size_setCell, size_drew] at z10
        have B10 : Below w.heap.size w w10 := Below.t b10
        have rxk_ := (rxk.alloc _).below b10
        clear rxk; have rxk := rxk_; clear rxk_
        have rxx_ := (rxx.alloc _).below b10
        clear rxx; have rxx := rxx_; clear rxx_
        have pk_ : Box w10 (w.heap.size) #[.int .i64 kI0, (.slice kA1 kn1 kc1)] 30 := (pk.alloc _).below b10 (by first | omega | (simp [size_drew]; done) | (simp [size_drew]; omega))
        clear pk; have pk := pk_; clear pk_
        have px_ : Box w10 (w.heap.size + 1) #[(.slice xA0 xn0 xc0), (.slice xA1 xn1 xc1), (.slice xA2 xn2 xc2), (.slice xA3 xn3 xc3), (.slice xA4 xn4 xc4), (.slice xA5 xn5 xc5)] 64 := (px.alloc _).below b10 (by first | omega | (simp [size_drew]; done) | (simp [size_drew]; omega))
        clear px; have px := px_; clear px_
        have py_ : Box w10 (w.heap.size + 1 + 1) #[(.slice yA0 yn0 yc0), (.slice yA1 yn1 yc1), (.slice yA2 yn2 yc2), (.slice yA3 yn3 yc3), (.slice yA4 yn4 yc4), (.slice yA5 yn5 yc5)] 64 := (py.alloc _).below b10 (by first | omega | (simp [size_drew]; done) | (simp [size_drew]; omega))
        clear py; have py := py_; clear py_
        have xk_ : Box w10 (w8.heap.size) #[.int .i64 kI0, (.slice xkA1 xkn1 xkc1)] 33 := (xk.alloc _).below b10 (by first | omega | (simp [size_drew]; done) | (simp [size_drew]; omega))
        clear xk; have xk := xk_; clear xk_
        have xx_ : Box w10 (w9.heap.size) #[(.slice xxA0 xxn0 xxc0), (.slice xxA1 xxn1 xxc1), (.slice xxA2 xxn2 xxc2), (.slice xxA3 xxn3 xxc3), (.slice xxA4 xxn4 xxc4), (.slice xxA5 xxn5 xxc5)] 68 := (Box.new (g := w9.heap.size) _ #[(.slice xxA0 xxn0 xxc0), (.slice xxA1 xxn1 xxc1), (.slice xxA2 xxn2 xxc2), (.slice xxA3 xxn3 xxc3), (.slice xxA4 xxn4 xxc4), (.slice xxA5 xxn5 xxc5)] 68 (by simp)).below b10 (by first | omega | (simp [size_drew]; done) | (simp [size_drew]; omega))
        have xx := xx_; clear xx_
        try simp only [World.size_alloc, World.size_setCell, size_drew] at rxy
        obtain ⟨cxk_0, cxk_1, fxk_0, fxk_1⟩ := xk.two
        have l_xk_0 : w8.heap.size < w10.heap.size := by omega
        have l_xk_1 : w8.heap.size < w10.heap.size + 1 := by omega
        obtain ⟨cxx_0, cxx_1, cxx_2, cxx_3, cxx_4, cxx_5, fxx_0, fxx_1, fxx_2, fxx_3, fxx_4, fxx_5⟩ := xx.six
        have l_xx_0 : w9.heap.size < w10.heap.size := by omega
        have l_xx_1 : w9.heap.size < w10.heap.size + 1 := by omega
        go_wp2_with fail
        refine (iCountPassingR_L kI0 (rxk.alloc _).rd kL1n (rxx.alloc _).rd xL0n xL1n xL2n xL3n xL4n xL5n (rxy.alloc _).rd yL0n yL1n yL2n yL3n yL4n yL5n).mono ?_
        rintro e w11 ⟨rfl, b11⟩
        clear cxk_0 cxk_1 fxk_0 fxk_1 l_xk_0 l_xk_1 cxx_0 cxx_1 cxx_2 cxx_3 cxx_4 cxx_5 fxx_0 fxx_1 fxx_2 fxx_3 fxx_4 fxx_5 l_xx_0 l_xx_1
        have z11 := b11.size
        try simp only [World.size_alloc, World.size_setCell, size_drew] at z11
        have B11 : Below w.heap.size w w11 := Below.t b11
        have rxk_ := (rxk.alloc _).below b11
        clear rxk; have rxk := rxk_; clear rxk_
        have rxx_ := (rxx.alloc _).below b11
        clear rxx; have rxx := rxx_; clear rxx_
        have rxy_ := (rxy.alloc _).below b11
        clear rxy; have rxy := rxy_; clear rxy_
        have pk_ : Box w11 (w.heap.size) #[.int .i64 kI0, (.slice kA1 kn1 kc1)] 30 := (pk.alloc _).below b11 (by first | omega | (simp [size_drew]; done) | (simp [size_drew]; omega))
        clear pk; have pk := pk_; clear pk_
        have px_ : Box w11 (w.heap.size + 1) #[(.slice xA0 xn0 xc0), (.slice xA1 xn1 xc1), (.slice xA2 xn2 xc2), (.slice xA3 xn3 xc3), (.slice xA4 xn4 xc4), (.slice xA5 xn5 xc5)] 64 := (px.alloc _).below b11 (by first | omega | (simp [size_drew]; done) | (simp [size_drew]; omega))
        clear px; have px := px_; clear px_
        have py_ : Box w11 (w.heap.size + 1 + 1) #[(.slice yA0 yn0 yc0), (.slice yA1 yn1 yc1), (.slice yA2 yn2 yc2), (.slice yA3 yn3 yc3), (.slice yA4 yn4 yc4), (.slice yA5 yn5 yc5)] 64 := (py.alloc _).below b11 (by first | omega | (simp [size_drew]; done) | (simp [size_drew]; omega))
        clear py; have py := py_; clear py_
        have xk_ : Box w11 (w8.heap.size) #[.int .i64 kI0, (.slice xkA1 xkn1 xkc1)] 33 := (xk.alloc _).below b11 (by first | omega | (simp [size_drew]; done) | (simp [size_drew]; omega))
        clear xk; have xk := xk_; clear xk_
        have xx_ : Box w11 (w9.heap.size) #[(.slice xxA0 xxn0 xxc0), (.slice xxA1 xxn1 xxc1), (.slice xxA2 xxn2 xxc2), (.slice xxA3 xxn3 xxc3), (.slice xxA4 xxn4 xxc4), (.slice xxA5 xxn5 xxc5)] 68 := (xx.alloc _).below b11 (by first | omega | (simp [size_drew]; done) | (simp [size_drew]; omega))
        clear xx; have xx := xx_; clear xx_
        have xy_ : Box w11 (w10.heap.size) #[(.slice xyA0 xyn0 xyc0), (.slice xyA1 xyn1 xyc1), (.slice xyA2 xyn2 xyc2), (.slice xyA3 xyn3 xyc3), (.slice xyA4 xyn4 xyc4), (.slice xyA5 xyn5 xyc5)] 68 := (Box.new (g := w10.heap.size) _ #[(.slice xyA0 xyn0 xyc0), (.slice xyA1 xyn1 xyc1), (.slice xyA2 xyn2 xyc2), (.slice xyA3 xyn3 xyc3), (.slice xyA4 xyn4 xyc4), (.slice xyA5 xyn5 xyc5)] 68 (by simp)).below b11 (by first | omega | (simp [size_drew]; done) | (simp [size_drew]; omega))
        have xy := xy_; clear xy_
        obtain ⟨cpk_0, cpk_1, fpk_0, fpk_1⟩ := pk.two
        have l_pk_0 : w.heap.size < w11.heap.size := by omega
        obtain ⟨cxk_0, cxk_1, fxk_0, fxk_1⟩ := xk.two
        have l_xk_0 : w8.heap.size < w11.heap.size := by omega
        go_wp2_with fail
        clear cpk_0 cpk_1 fpk_0 fpk_1 l_pk_0 cxk_0 cxk_1 fxk_0 fxk_1 l_xk_0
        refine wp_region_held_drew (S := fun W => W.cell? ⟨w.heap.size, 0, none⟩ = some (.int .i64 kI0) ∧ W.cell? ⟨w.heap.size, 1, none⟩ = some ((.slice kA1 kn1 kc1)) ∧ W.cell? ⟨w8.heap.size, 0, none⟩ = some (.int .i64 kI0) ∧ W.cell? ⟨w8.heap.size, 1, none⟩ = some ((.slice xkA1 xkn1 xkc1))) (by kernel_rfl) ⟨pk.drew.two.1, pk.drew.two.2.1, xk.drew.two.1, xk.drew.two.2.1⟩ (fun hS => ?_)
        (refine tk 0 hS ?_; (try simp only [Act.put, List.setIfInBounds_toArray, List.set_cons_zero, List.set_cons_succ]))
        (refine tk 1 hS ?_; (try simp only [Act.put, List.setIfInBounds_toArray, List.set_cons_zero, List.set_cons_succ]))
        refine on 2 ?_
        refine callH (by go_simp; (first | done | with_reducible rfl | exact ⟨rfl, rfl⟩)) ?_
        go_at_call 35
        refine (toKeys_L kI0 (RdL.cons (d := .ints kL1) kL1h.rd.b RdL.nil) kL1n).mono ?_
        rintro e w12 ⟨zkA1, zkn1, zkc1, rfl, rzk, b12⟩
        clear hS
        have z12 := Below.size b12
        (try simp only [World.size_alloc, World.size_setCell, size_drew] at z12)
        have B12 : Below w.heap.size w w12 := Below.t b12
        have rxk_ := (rxk.drew.below b12)
        clear rxk; have rxk := rxk_; clear rxk_
        have rxx_ := (rxx.drew.below b12)
        clear rxx; have rxx := rxx_; clear rxx_
        have rxy_ := (rxy.drew.below b12)
        clear rxy; have rxy := rxy_; clear rxy_
        have pk_ : Box w12 (w.heap.size) #[.int .i64 kI0, (.slice kA1 kn1 kc1)] 30 := (Box.b pk.drew b12)
        clear pk; have pk := pk_; clear pk_
        have px_ : Box w12 (w.heap.size + 1) #[(.slice xA0 xn0 xc0), (.slice xA1 xn1 xc1), (.slice xA2 xn2 xc2), (.slice xA3 xn3 xc3), (.slice xA4 xn4 xc4), (.slice xA5 xn5 xc5)] 64 := (Box.b px.drew b12)
        clear px; have px := px_; clear px_
        have py_ : Box w12 (w.heap.size + 1 + 1) #[(.slice yA0 yn0 yc0), (.slice yA1 yn1 yc1), (.slice yA2 yn2 yc2), (.slice yA3 yn3 yc3), (.slice yA4 yn4 yc4), (.slice yA5 yn5 yc5)] 64 := (Box.b py.drew b12)
        clear py; have py := py_; clear py_
        have xk_ : Box w12 (w8.heap.size) #[.int .i64 kI0, (.slice xkA1 xkn1 xkc1)] 33 := (Box.b xk.drew b12)
        clear xk; have xk := xk_; clear xk_
        have xx_ : Box w12 (w9.heap.size) #[(.slice xxA0 xxn0 xxc0), (.slice xxA1 xxn1 xxc1), (.slice xxA2 xxn2 xxc2), (.slice xxA3 xxn3 xxc3), (.slice xxA4 xxn4 xxc4), (.slice xxA5 xxn5 xxc5)] 68 := (Box.b xx.drew b12)
        clear xx; have xx := xx_; clear xx_
        have xy_ : Box w12 (w10.heap.size) #[(.slice xyA0 xyn0 xyc0), (.slice xyA1 xyn1 xyc1), (.slice xyA2 xyn2 xyc2), (.slice xyA3 xyn3 xyc3), (.slice xyA4 xyn4 xyc4), (.slice xyA5 xyn5 xyc5)] 68 := (Box.b xy.drew b12)
        clear xy; have xy := xy_; clear xy_
        (try simp only [World.size_alloc, World.size_setCell, size_drew] at rzk)
        refine ⟨_, rfl, ⟨pk.two.1, pk.two.2.1, xk.two.1, xk.two.2.1⟩, fun hS => ?_⟩
        (try simp only [Act.put, List.setIfInBounds_toArray, List.set_cons_zero, List.set_cons_succ])
        refine on 3 ?_
        refine callH (by go_simp; (first | done | with_reducible rfl | exact ⟨rfl, rfl⟩)) ?_
        go_at_call 37
        refine (eqKeys_L kI0 rxk.rd rzk.rd kL1n).mono ?_
        rintro e w13 ⟨rfl, b13⟩
        clear hS
        have z13 := Below.size b13
        (try simp only [World.size_alloc, World.size_setCell, size_drew] at z13)
        have B13 : Below w.heap.size w w13 := Below.t b13
        have rxk_ := (rxk.below b13)
        clear rxk; have rxk := rxk_; clear rxk_
        have rxx_ := (rxx.below b13)
        clear rxx; have rxx := rxx_; clear rxx_
        have rxy_ := (rxy.below b13)
        clear rxy; have rxy := rxy_; clear rxy_
        have rzk_ := (rzk.below b13)
        clear rzk; have rzk := rzk_; clear rzk_
        have pk_ : Box w13 (w.heap.size) #[.int .i64 kI0, (.slice kA1 kn1 kc1)] 30 := (Box.b pk b13)
        clear pk; have pk := pk_; clear pk_
        have px_ : Box w13 (w.heap.size + 1) #[(.slice xA0 xn0 xc0), (.slice xA1 xn1 xc1), (.slice xA2 xn2 xc2), (.slice xA3 xn3 xc3), (.slice xA4 xn4 xc4), (.slice xA5 xn5 xc5)] 64 := (Box.b px b13)
        clear px; have px := px_; clear px_
        have py_ : Box w13 (w.heap.size + 1 + 1) #[(.slice yA0 yn0 yc0), (.slice yA1 yn1 yc1), (.slice yA2 yn2 yc2), (.slice yA3 yn3 yc3), (.slice yA4 yn4 yc4), (.slice yA5 yn5 yc5)] 64 := (Box.b py b13)
        clear py; have py := py_; clear py_
        have xk_ : Box w13 (w8.heap.size) #[.int .i64 kI0, (.slice xkA1 xkn1 xkc1)] 33 := (Box.b xk b13)
        clear xk; have xk := xk_; clear xk_
        have xx_ : Box w13 (w9.heap.size) #[(.slice xxA0 xxn0 xxc0), (.slice xxA1 xxn1 xxc1), (.slice xxA2 xxn2 xxc2), (.slice xxA3 xxn3 xxc3), (.slice xxA4 xxn4 xxc4), (.slice xxA5 xxn5 xxc5)] 68 := (Box.b xx b13)
        clear xx; have xx := xx_; clear xx_
        have xy_ : Box w13 (w10.heap.size) #[(.slice xyA0 xyn0 xyc0), (.slice xyA1 xyn1 xyc1), (.slice xyA2 xyn2 xyc2), (.slice xyA3 xyn3 xyc3), (.slice xyA4 xyn4 xyc4), (.slice xyA5 xyn5 xyc5)] 68 := (Box.b xy b13)
        clear xy; have xy := xy_; clear xy_
        refine ⟨_, rfl, ⟨pk.two.1, pk.two.2.1, xk.two.1, xk.two.2.1⟩, fun hS => ?_⟩
        (try simp only [Act.put, List.setIfInBounds_toArray, List.set_cons_zero, List.set_cons_succ])
        (refine tk 4 hS ?_; (try simp only [Act.put, List.setIfInBounds_toArray, List.set_cons_zero, List.set_cons_succ]))
        clear hS
        refine wpAnyH_done (by kernel_rfl) ?_ _
        obtain ⟨cpx_0, cpx_1, cpx_2, cpx_3, cpx_4, cpx_5, fpx_0, fpx_1, fpx_2, fpx_3, fpx_4, fpx_5⟩ := px.six
        have l_px_0 : w.heap.size + 1 < w13.heap.size := by omega
        obtain ⟨cxx_0, cxx_1, cxx_2, cxx_3, cxx_4, cxx_5, fxx_0, fxx_1, fxx_2, fxx_3, fxx_4, fxx_5⟩ := xx.six
        have l_xx_0 : w9.heap.size < w13.heap.size := by omega
        go_wp2_with fail
        clear cpx_0 cpx_1 cpx_2 cpx_3 cpx_4 cpx_5 fpx_0 fpx_1 fpx_2 fpx_3 fpx_4 fpx_5 l_px_0 cxx_0 cxx_1 cxx_2 cxx_3 cxx_4 cxx_5 fxx_0 fxx_1 fxx_2 fxx_3 fxx_4 fxx_5 l_xx_0
        refine wp_region_held_drew (S := fun W => W.cell? ⟨w.heap.size + 1, 0, none⟩ = some ((.slice xA0 xn0 xc0)) ∧ W.cell? ⟨w.heap.size + 1, 1, none⟩ = some ((.slice xA1 xn1 xc1)) ∧ W.cell? ⟨w.heap.size + 1, 2, none⟩ = some ((.slice xA2 xn2 xc2)) ∧ W.cell? ⟨w.heap.size + 1, 3, none⟩ = some ((.slice xA3 xn3 xc3)) ∧ W.cell? ⟨w.heap.size + 1, 4, none⟩ = some ((.slice xA4 xn4 xc4)) ∧ W.cell? ⟨w.heap.size + 1, 5, none⟩ = some ((.slice xA5 xn5 xc5)) ∧ W.cell? ⟨w9.heap.size, 0, none⟩ = some ((.slice xxA0 xxn0 xxc0)) ∧ W.cell? ⟨w9.heap.size, 1, none⟩ = some ((.slice xxA1 xxn1 xxc1)) ∧ W.cell? ⟨w9.heap.size, 2, none⟩ = some ((.slice xxA2 xxn2 xxc2)) ∧ W.cell? ⟨w9.heap.size, 3, none⟩ = some ((.slice xxA3 xxn3 xxc3)) ∧ W.cell? ⟨w9.heap.size, 4, none⟩ = some ((.slice xxA4 xxn4 xxc4)) ∧ W.cell? ⟨w9.heap.size, 5, none⟩ = some ((.slice xxA5 xxn5 xxc5))) (by kernel_rfl) ⟨px.drew.six.1, px.drew.six.2.1, px.drew.six.2.2.1, px.drew.six.2.2.2.1, px.drew.six.2.2.2.2.1, px.drew.six.2.2.2.2.2.1, xx.drew.six.1, xx.drew.six.2.1, xx.drew.six.2.2.1, xx.drew.six.2.2.2.1, xx.drew.six.2.2.2.2.1, xx.drew.six.2.2.2.2.2.1⟩ (fun hS => ?_)
        (refine tk 0 hS ?_; (try simp only [Act.put, List.setIfInBounds_toArray, List.set_cons_zero, List.set_cons_succ]))
        (refine tk 1 hS ?_; (try simp only [Act.put, List.setIfInBounds_toArray, List.set_cons_zero, List.set_cons_succ]))
        refine on 2 ?_
        refine callH (by go_simp; (first | done | with_reducible rfl | exact ⟨rfl, rfl⟩)) ?_
        go_at_call 60
        refine (toTriple_L (RdL.cons (d := .ints xL0) xL0h.rd.b (RdL.cons (d := .ints xL1) xL1h.rd.b (RdL.cons (d := .ints xL2) xL2h.rd.b (RdL.cons (d := .ints xL3) xL3h.rd.b (RdL.cons (d := .ints xL4) xL4h.rd.b (RdL.cons (d := .ints xL5) xL5h.rd.b RdL.nil)))))) xL0n xL1n xL2n xL3n xL4n xL5n).mono ?_
        rintro e w14 ⟨zxA0, zxn0, zxc0, zxA1, zxn1, zxc1, zxA2, zxn2, zxc2, zxA3, zxn3, zxc3, zxA4, zxn4, zxc4, zxA5, zxn5, zxc5, rfl, rzx, b14⟩
        clear hS
        have z14 := Below.size b14
        (try simp only [World.size_alloc, World.size_setCell, size_drew] at z14)
        have B14 : Below w.heap.size w w14 := Below.t b14
        have rxk_ := (rxk.drew.below b14)
        clear rxk; have rxk := rxk_; clear rxk_
        have rxx_ := (rxx.drew.below b14)
        clear rxx; have rxx := rxx_; clear rxx_
        have rxy_ := (rxy.drew.below b14)
        clear rxy; have rxy := rxy_; clear rxy_
        have pk_ : Box w14 (w.heap.size) #[.int .i64 kI0, (.slice kA1 kn1 kc1)] 30 := (Box.b pk.drew b14)
        clear pk; have pk := pk_; clear pk_
        have px_ : Box w14 (w.heap.size + 1) #[(.slice xA0 xn0 xc0), (.slice xA1 xn1 xc1), (.slice xA2 xn2 xc2), (.slice xA3 xn3 xc3), (.slice xA4 xn4 xc4), (.slice xA5 xn5 xc5)] 64 := (Box.b px.drew b14)
        clear px; have px := px_; clear px_
        have py_ : Box w14 (w.heap.size + 1 + 1) #[(.slice yA0 yn0 yc0), (.slice yA1 yn1 yc1), (.slice yA2 yn2 yc2), (.slice yA3 yn3 yc3), (.slice yA4 yn4 yc4), (.slice yA5 yn5 yc5)] 64 := (Box.b py.drew b14)
        clear py; have py := py_; clear py_
        have xk_ : Box w14 (w8.heap.size) #[.int .i64 kI0, (.slice xkA1 xkn1 xkc1)] 33 := (Box.b xk.drew b14)
        clear xk; have xk := xk_; clear xk_
        have xx_ : Box w14 (w9.heap.size) #[(.slice xxA0 xxn0 xxc0), (.slice xxA1 xxn1 xxc1), (.slice xxA2 xxn2 xxc2), (.slice xxA3 xxn3 xxc3), (.slice xxA4 xxn4 xxc4), (.slice xxA5 xxn5 xxc5)] 68 := (Box.b xx.drew b14)
        clear xx; have xx := xx_; clear xx_
        have xy_ : Box w14 (w10.heap.size) #[(.slice xyA0 xyn0 xyc0), (.slice xyA1 xyn1 xyc1), (.slice xyA2 xyn2 xyc2), (.slice xyA3 xyn3 xyc3), (.slice xyA4 xyn4 xyc4), (.slice xyA5 xyn5 xyc5)] 68 := (Box.b xy.drew b14)
        clear xy; have xy := xy_; clear xy_
        (try simp only [World.size_alloc, World.size_setCell, size_drew] at rzx)
        refine ⟨_, rfl, ⟨px.six.1, px.six.2.1, px.six.2.2.1, px.six.2.2.2.1, px.six.2.2.2.2.1, px.six.2.2.2.2.2.1, xx.six.1, xx.six.2.1, xx.six.2.2.1, xx.six.2.2.2.1, xx.six.2.2.2.2.1, xx.six.2.2.2.2.2.1⟩, fun hS => ?_⟩
        (try simp only [Act.put, List.setIfInBounds_toArray, List.set_cons_zero, List.set_cons_succ])
        refine on 3 ?_
        refine callH (by go_simp; (first | done | with_reducible rfl | exact ⟨rfl, rfl⟩)) ?_
        go_at_call 62
        refine (eqTriple_L rxx.rd rzx.rd xL0n xL1n xL2n xL3n xL4n xL5n).mono ?_
        rintro e w15 ⟨rfl, b15⟩
        clear hS
        have z15 := Below.size b15
        (try simp only [World.size_alloc, World.size_setCell, size_drew] at z15)
        have B15 : Below w.heap.size w w15 := Below.t b15
        have rxk_ := (rxk.below b15)
        clear rxk; have rxk := rxk_; clear rxk_
        have rxx_ := (rxx.below b15)
        clear rxx; have rxx := rxx_; clear rxx_
        have rxy_ := (rxy.below b15)
        clear rxy; have rxy := rxy_; clear rxy_
        have rzx_ := (rzx.below b15)
        clear rzx; have rzx := rzx_; clear rzx_
        have pk_ : Box w15 (w.heap.size) #[.int .i64 kI0, (.slice kA1 kn1 kc1)] 30 := (Box.b pk b15)
        clear pk; have pk := pk_; clear pk_
        have px_ : Box w15 (w.heap.size + 1) #[(.slice xA0 xn0 xc0), (.slice xA1 xn1 xc1), (.slice xA2 xn2 xc2), (.slice xA3 xn3 xc3), (.slice xA4 xn4 xc4), (.slice xA5 xn5 xc5)] 64 := (Box.b px b15)
        clear px; have px := px_; clear px_
        have py_ : Box w15 (w.heap.size + 1 + 1) #[(.slice yA0 yn0 yc0), (.slice yA1 yn1 yc1), (.slice yA2 yn2 yc2), (.slice yA3 yn3 yc3), (.slice yA4 yn4 yc4), (.slice yA5 yn5 yc5)] 64 := (Box.b py b15)
        clear py; have py := py_; clear py_
        have xk_ : Box w15 (w8.heap.size) #[.int .i64 kI0, (.slice xkA1 xkn1 xkc1)] 33 := (Box.b xk b15)
        clear xk; have xk := xk_; clear xk_
        have xx_ : Box w15 (w9.heap.size) #[(.slice xxA0 xxn0 xxc0), (.slice xxA1 xxn1 xxc1), (.slice xxA2 xxn2 xxc2), (.slice xxA3 xxn3 xxc3), (.slice xxA4 xxn4 xxc4), (.slice xxA5 xxn5 xxc5)] 68 := (Box.b xx b15)
        clear xx; have xx := xx_; clear xx_
        have xy_ : Box w15 (w10.heap.size) #[(.slice xyA0 xyn0 xyc0), (.slice xyA1 xyn1 xyc1), (.slice xyA2 xyn2 xyc2), (.slice xyA3 xyn3 xyc3), (.slice xyA4 xyn4 xyc4), (.slice xyA5 xyn5 xyc5)] 68 := (Box.b xy b15)
        clear xy; have xy := xy_; clear xy_
        refine ⟨_, rfl, ⟨px.six.1, px.six.2.1, px.six.2.2.1, px.six.2.2.2.1, px.six.2.2.2.2.1, px.six.2.2.2.2.2.1, xx.six.1, xx.six.2.1, xx.six.2.2.1, xx.six.2.2.2.1, xx.six.2.2.2.2.1, xx.six.2.2.2.2.2.1⟩, fun hS => ?_⟩
        (try simp only [Act.put, List.setIfInBounds_toArray, List.set_cons_zero, List.set_cons_succ])
        (refine tk 4 hS ?_; (try simp only [Act.put, List.setIfInBounds_toArray, List.set_cons_zero, List.set_cons_succ]))
        clear hS
        refine wpAnyH_done (by kernel_rfl) ?_ _
        obtain ⟨cpy_0, cpy_1, cpy_2, cpy_3, cpy_4, cpy_5, fpy_0, fpy_1, fpy_2, fpy_3, fpy_4, fpy_5⟩ := py.six
        have l_py_0 : w.heap.size + 1 + 1 < w15.heap.size := by omega
        obtain ⟨cxy_0, cxy_1, cxy_2, cxy_3, cxy_4, cxy_5, fxy_0, fxy_1, fxy_2, fxy_3, fxy_4, fxy_5⟩ := xy.six
        have l_xy_0 : w10.heap.size < w15.heap.size := by omega
        go_wp2_with fail
        clear cpy_0 cpy_1 cpy_2 cpy_3 cpy_4 cpy_5 fpy_0 fpy_1 fpy_2 fpy_3 fpy_4 fpy_5 l_py_0 cxy_0 cxy_1 cxy_2 cxy_3 cxy_4 cxy_5 fxy_0 fxy_1 fxy_2 fxy_3 fxy_4 fxy_5 l_xy_0
        refine wp_region_held_drew (S := fun W => W.cell? ⟨w.heap.size + 1 + 1, 0, none⟩ = some ((.slice yA0 yn0 yc0)) ∧ W.cell? ⟨w.heap.size + 1 + 1, 1, none⟩ = some ((.slice yA1 yn1 yc1)) ∧ W.cell? ⟨w.heap.size + 1 + 1, 2, none⟩ = some ((.slice yA2 yn2 yc2)) ∧ W.cell? ⟨w.heap.size + 1 + 1, 3, none⟩ = some ((.slice yA3 yn3 yc3)) ∧ W.cell? ⟨w.heap.size + 1 + 1, 4, none⟩ = some ((.slice yA4 yn4 yc4)) ∧ W.cell? ⟨w.heap.size + 1 + 1, 5, none⟩ = some ((.slice yA5 yn5 yc5)) ∧ W.cell? ⟨w10.heap.size, 0, none⟩ = some ((.slice xyA0 xyn0 xyc0)) ∧ W.cell? ⟨w10.heap.size, 1, none⟩ = some ((.slice xyA1 xyn1 xyc1)) ∧ W.cell? ⟨w10.heap.size, 2, none⟩ = some ((.slice xyA2 xyn2 xyc2)) ∧ W.cell? ⟨w10.heap.size, 3, none⟩ = some ((.slice xyA3 xyn3 xyc3)) ∧ W.cell? ⟨w10.heap.size, 4, none⟩ = some ((.slice xyA4 xyn4 xyc4)) ∧ W.cell? ⟨w10.heap.size, 5, none⟩ = some ((.slice xyA5 xyn5 xyc5))) (by kernel_rfl) ⟨py.drew.six.1, py.drew.six.2.1, py.drew.six.2.2.1, py.drew.six.2.2.2.1, py.drew.six.2.2.2.2.1, py.drew.six.2.2.2.2.2.1, xy.drew.six.1, xy.drew.six.2.1, xy.drew.six.2.2.1, xy.drew.six.2.2.2.1, xy.drew.six.2.2.2.2.1, xy.drew.six.2.2.2.2.2.1⟩ (fun hS => ?_)
        (refine tk 0 hS ?_; (try simp only [Act.put, List.setIfInBounds_toArray, List.set_cons_zero, List.set_cons_succ]))
        (refine tk 1 hS ?_; (try simp only [Act.put, List.setIfInBounds_toArray, List.set_cons_zero, List.set_cons_succ]))
        refine on 2 ?_
        refine callH (by go_simp; (first | done | with_reducible rfl | exact ⟨rfl, rfl⟩)) ?_
        go_at_call 60
        refine (toTriple_L (RdL.cons (d := .ints yL0) yL0h.rd.b (RdL.cons (d := .ints yL1) yL1h.rd.b (RdL.cons (d := .ints yL2) yL2h.rd.b (RdL.cons (d := .ints yL3) yL3h.rd.b (RdL.cons (d := .ints yL4) yL4h.rd.b (RdL.cons (d := .ints yL5) yL5h.rd.b RdL.nil)))))) yL0n yL1n yL2n yL3n yL4n yL5n).mono ?_
        rintro e w16 ⟨zyA0, zyn0, zyc0, zyA1, zyn1, zyc1, zyA2, zyn2, zyc2, zyA3, zyn3, zyc3, zyA4, zyn4, zyc4, zyA5, zyn5, zyc5, rfl, rzy, b16⟩
        clear hS
        have z16 := Below.size b16
        (try simp only [World.size_alloc, World.size_setCell, size_drew] at z16)
        have B16 : Below w.heap.size w w16 := Below.t b16
        have rxk_ := (rxk.drew.below b16)
        clear rxk; have rxk := rxk_; clear rxk_
        have rxx_ := (rxx.drew.below b16)
        clear rxx; have rxx := rxx_; clear rxx_
        have rxy_ := (rxy.drew.below b16)
        clear rxy; have rxy := rxy_; clear rxy_
        have pk_ : Box w16 (w.heap.size) #[.int .i64 kI0, (.slice kA1 kn1 kc1)] 30 := (Box.b pk.drew b16)
        clear pk; have pk := pk_; clear pk_
        have px_ : Box w16 (w.heap.size + 1) #[(.slice xA0 xn0 xc0), (.slice xA1 xn1 xc1), (.slice xA2 xn2 xc2), (.slice xA3 xn3 xc3), (.slice xA4 xn4 xc4), (.slice xA5 xn5 xc5)] 64 := (Box.b px.drew b16)
        clear px; have px := px_; clear px_
        have py_ : Box w16 (w.heap.size + 1 + 1) #[(.slice yA0 yn0 yc0), (.slice yA1 yn1 yc1), (.slice yA2 yn2 yc2), (.slice yA3 yn3 yc3), (.slice yA4 yn4 yc4), (.slice yA5 yn5 yc5)] 64 := (Box.b py.drew b16)
        clear py; have py := py_; clear py_
        have xk_ : Box w16 (w8.heap.size) #[.int .i64 kI0, (.slice xkA1 xkn1 xkc1)] 33 := (Box.b xk.drew b16)
        clear xk; have xk := xk_; clear xk_
        have xx_ : Box w16 (w9.heap.size) #[(.slice xxA0 xxn0 xxc0), (.slice xxA1 xxn1 xxc1), (.slice xxA2 xxn2 xxc2), (.slice xxA3 xxn3 xxc3), (.slice xxA4 xxn4 xxc4), (.slice xxA5 xxn5 xxc5)] 68 := (Box.b xx.drew b16)
        clear xx; have xx := xx_; clear xx_
        have xy_ : Box w16 (w10.heap.size) #[(.slice xyA0 xyn0 xyc0), (.slice xyA1 xyn1 xyc1), (.slice xyA2 xyn2 xyc2), (.slice xyA3 xyn3 xyc3), (.slice xyA4 xyn4 xyc4), (.slice xyA5 xyn5 xyc5)] 68 := (Box.b xy.drew b16)
        clear xy; have xy := xy_; clear xy_
        (try simp only [World.size_alloc, World.size_setCell, size_drew] at rzy)
        refine ⟨_, rfl, ⟨py.six.1, py.six.2.1, py.six.2.2.1, py.six.2.2.2.1, py.six.2.2.2.2.1, py.six.2.2.2.2.2.1, xy.six.1, xy.six.2.1, xy.six.2.2.1, xy.six.2.2.2.1, xy.six.2.2.2.2.1, xy.six.2.2.2.2.2.1⟩, fun hS => ?_⟩
        (try simp only [Act.put, List.setIfInBounds_toArray, List.set_cons_zero, List.set_cons_succ])
        refine on 3 ?_
        refine callH (by go_simp; (first | done | with_reducible rfl | exact ⟨rfl, rfl⟩)) ?_
        go_at_call 62
        refine (eqTriple_L rxy.rd rzy.rd yL0n yL1n yL2n yL3n yL4n yL5n).mono ?_
        rintro e w17 ⟨rfl, b17⟩
        clear hS
        have z17 := Below.size b17
        (try simp only [World.size_alloc, World.size_setCell, size_drew] at z17)
        have B17 : Below w.heap.size w w17 := Below.t b17
        have rxk_ := (rxk.below b17)
        clear rxk; have rxk := rxk_; clear rxk_
        have rxx_ := (rxx.below b17)
        clear rxx; have rxx := rxx_; clear rxx_
        have rxy_ := (rxy.below b17)
        clear rxy; have rxy := rxy_; clear rxy_
        have rzy_ := (rzy.below b17)
        clear rzy; have rzy := rzy_; clear rzy_
        have pk_ : Box w17 (w.heap.size) #[.int .i64 kI0, (.slice kA1 kn1 kc1)] 30 := (Box.b pk b17)
        clear pk; have pk := pk_; clear pk_
        have px_ : Box w17 (w.heap.size + 1) #[(.slice xA0 xn0 xc0), (.slice xA1 xn1 xc1), (.slice xA2 xn2 xc2), (.slice xA3 xn3 xc3), (.slice xA4 xn4 xc4), (.slice xA5 xn5 xc5)] 64 := (Box.b px b17)
        clear px; have px := px_; clear px_
        have py_ : Box w17 (w.heap.size + 1 + 1) #[(.slice yA0 yn0 yc0), (.slice yA1 yn1 yc1), (.slice yA2 yn2 yc2), (.slice yA3 yn3 yc3), (.slice yA4 yn4 yc4), (.slice yA5 yn5 yc5)] 64 := (Box.b py b17)
        clear py; have py := py_; clear py_
        have xk_ : Box w17 (w8.heap.size) #[.int .i64 kI0, (.slice xkA1 xkn1 xkc1)] 33 := (Box.b xk b17)
        clear xk; have xk := xk_; clear xk_
        have xx_ : Box w17 (w9.heap.size) #[(.slice xxA0 xxn0 xxc0), (.slice xxA1 xxn1 xxc1), (.slice xxA2 xxn2 xxc2), (.slice xxA3 xxn3 xxc3), (.slice xxA4 xxn4 xxc4), (.slice xxA5 xxn5 xxc5)] 68 := (Box.b xx b17)
        clear xx; have xx := xx_; clear xx_
        have xy_ : Box w17 (w10.heap.size) #[(.slice xyA0 xyn0 xyc0), (.slice xyA1 xyn1 xyc1), (.slice xyA2 xyn2 xyc2), (.slice xyA3 xyn3 xyc3), (.slice xyA4 xyn4 xyc4), (.slice xyA5 xyn5 xyc5)] 68 := (Box.b xy b17)
        clear xy; have xy := xy_; clear xy_
        refine ⟨_, rfl, ⟨py.six.1, py.six.2.1, py.six.2.2.1, py.six.2.2.2.1, py.six.2.2.2.2.1, py.six.2.2.2.2.2.1, xy.six.1, xy.six.2.1, xy.six.2.2.1, xy.six.2.2.2.1, xy.six.2.2.2.2.1, xy.six.2.2.2.2.2.1⟩, fun hS => ?_⟩
        (try simp only [Act.put, List.setIfInBounds_toArray, List.set_cons_zero, List.set_cons_succ])
        (refine tk 4 hS ?_; (try simp only [Act.put, List.setIfInBounds_toArray, List.set_cons_zero, List.set_cons_succ]))
        clear hS
        refine wpAnyH_done (by kernel_rfl) ?_ _
        go_wp2_with fail
        go_ret
        exact ⟨rfl, B17⟩
      · skip
        go_enter Try.func19, Try.ntmps19
        go_wp2_with fail
        refine (szKeys_yes kI0 kL1h.b (1048576) _ (by first | rfl | simp) (by omega) (by omega)).mono ?_
        rintro e w1 ⟨rfl, b1⟩
        have z1 := b1.size
        try simp only [World.size_alloc, World.size_setCell, size_drew] at z1
        have B1 : Below w.heap.size w w1 := Below.t b1
        have pk_ : Box w1 (w.heap.size) #[.int .i64 kI0, (.slice kA1 kn1 kc1)] 30 := (((Box.new (g := w.heap.size) _ #[.int .i64 kI0, (.slice kA1 kn1 kc1)] 30 (by simp)).alloc _).alloc _).below b1 (by first | omega | (simp [size_drew]; done) | (simp [size_drew]; omega))
        have pk := pk_; clear pk_
        have px_ : Box w1 (w.heap.size + 1) #[(.slice xA0 xn0 xc0), (.slice xA1 xn1 xc1), (.slice xA2 xn2 xc2), (.slice xA3 xn3 xc3), (.slice xA4 xn4 xc4), (.slice xA5 xn5 xc5)] 64 := ((Box.new (g := w.heap.size + 1) _ #[(.slice xA0 xn0 xc0), (.slice xA1 xn1 xc1), (.slice xA2 xn2 xc2), (.slice xA3 xn3 xc3), (.slice xA4 xn4 xc4), (.slice xA5 xn5 xc5)] 64 (by simp)).alloc _).below b1 (by first | omega | (simp [size_drew]; done) | (simp [size_drew]; omega))
        have px := px_; clear px_
        have py_ : Box w1 (w.heap.size + 1 + 1) #[(.slice yA0 yn0 yc0), (.slice yA1 yn1 yc1), (.slice yA2 yn2 yc2), (.slice yA3 yn3 yc3), (.slice yA4 yn4 yc4), (.slice yA5 yn5 yc5)] 64 := (Box.new (g := w.heap.size + 1 + 1) _ #[(.slice yA0 yn0 yc0), (.slice yA1 yn1 yc1), (.slice yA2 yn2 yc2), (.slice yA3 yn3 yc3), (.slice yA4 yn4 yc4), (.slice yA5 yn5 yc5)] 64 (by simp)).below b1 (by first | omega | (simp [size_drew]; done) | (simp [size_drew]; omega))
        have py := py_; clear py_
        obtain ⟨cpx_0, cpx_1, cpx_2, cpx_3, cpx_4, cpx_5, fpx_0, fpx_1, fpx_2, fpx_3, fpx_4, fpx_5⟩ := px.six
        have l_px_0 : w.heap.size + 1 < w1.heap.size := by omega
        go_wp2_with fail
        refine (szTriple_yes xL0h.b xL1h.b xL2h.b xL3h.b xL4h.b xL5h.b (1048576 - (kL1.length)) _ (by first | rfl | simp) (by omega) (by omega)).mono ?_
        rintro e w2 ⟨rfl, b2⟩
        clear cpx_0 cpx_1 cpx_2 cpx_3 cpx_4 cpx_5 fpx_0 fpx_1 fpx_2 fpx_3 fpx_4 fpx_5 l_px_0
        have z2 := b2.size
        try simp only [World.size_alloc, World.size_setCell, size_drew] at z2
        have B2 : Below w.heap.size w w2 := Below.t b2
        have pk_ : Box w2 (w.heap.size) #[.int .i64 kI0, (.slice kA1 kn1 kc1)] 30 := pk.below b2 (by first | omega | (simp [size_drew]; done) | (simp [size_drew]; omega))
        clear pk; have pk := pk_; clear pk_
        have px_ : Box w2 (w.heap.size + 1) #[(.slice xA0 xn0 xc0), (.slice xA1 xn1 xc1), (.slice xA2 xn2 xc2), (.slice xA3 xn3 xc3), (.slice xA4 xn4 xc4), (.slice xA5 xn5 xc5)] 64 := px.below b2 (by first | omega | (simp [size_drew]; done) | (simp [size_drew]; omega))
        clear px; have px := px_; clear px_
        have py_ : Box w2 (w.heap.size + 1 + 1) #[(.slice yA0 yn0 yc0), (.slice yA1 yn1 yc1), (.slice yA2 yn2 yc2), (.slice yA3 yn3 yc3), (.slice yA4 yn4 yc4), (.slice yA5 yn5 yc5)] 64 := py.below b2 (by first | omega | (simp [size_drew]; done) | (simp [size_drew]; omega))
        clear py; have py := py_; clear py_
        obtain ⟨cpy_0, cpy_1, cpy_2, cpy_3, cpy_4, cpy_5, fpy_0, fpy_1, fpy_2, fpy_3, fpy_4, fpy_5⟩ := py.six
        have l_py_0 : w.heap.size + 1 + 1 < w2.heap.size := by omega
        go_wp2_with fail
        refine (szTriple_no yL0h.b yL1h.b yL2h.b yL3h.b yL4h.b yL5h.b (1048576 - (kL1.length) - (xL0.length + xL1.length + xL2.length + xL3.length + xL4.length + xL5.length)) _ (by first | rfl | simp) (by omega) (by omega)).mono ?_
        rintro e w3 ⟨rfl, b3⟩
        clear cpy_0 cpy_1 cpy_2 cpy_3 cpy_4 cpy_5 fpy_0 fpy_1 fpy_2 fpy_3 fpy_4 fpy_5 l_py_0
        have z3 := b3.size
        try simp only [World.size_alloc, World.size_setCell, size_drew] at z3
        have B3 : Below w.heap.size w w3 := Below.t b3
        have pk_ : Box w3 (w.heap.size) #[.int .i64 kI0, (.slice kA1 kn1 kc1)] 30 := pk.below b3 (by first | omega | (simp [size_drew]; done) | (simp [size_drew]; omega))
        clear pk; have pk := pk_; clear pk_
        have px_ : Box w3 (w.heap.size + 1) #[(.slice xA0 xn0 xc0), (.slice xA1 xn1 xc1), (.slice xA2 xn2 xc2), (.slice xA3 xn3 xc3), (.slice xA4 xn4 xc4), (.slice xA5 xn5 xc5)] 64 := px.below b3 (by first | omega | (simp [size_drew]; done) | (simp [size_drew]; omega))
        clear px; have px := px_; clear px_
        have py_ : Box w3 (w.heap.size + 1 + 1) #[(.slice yA0 yn0 yc0), (.slice yA1 yn1 yc1), (.slice yA2 yn2 yc2), (.slice yA3 yn3 yc3), (.slice yA4 yn4 yc4), (.slice yA5 yn5 yc5)] 64 := py.below b3 (by first | omega | (simp [size_drew]; done) | (simp [size_drew]; omega))
        clear py; have py := py_; clear py_
        go_wp2
        go_ret
        exact ⟨rfl, B3⟩
    · skip
      go_enter Try.func19, Try.ntmps19
      go_wp2_with fail
      refine (szKeys_yes kI0 kL1h.b (1048576) _ (by first | rfl | simp) (by omega) (by omega)).mono ?_
      rintro e w1 ⟨rfl, b1⟩
      have z1 := b1.size
      try simp only [World.size_alloc, World.size_setCell, size_drew] at z1
      have B1 : Below w.heap.size w w1 := Below.t b1
      have pk_ : Box w1 (w.heap.size) #[.int .i64 kI0, (.slice kA1 kn1 kc1)] 30 := (((Box.new (g := w.heap.size) _ #[.int .i64 kI0, (.slice kA1 kn1 kc1)] 30 (by simp)).alloc _).alloc _).below b1 (by first | omega | (simp [size_drew]; done) | (simp [size_drew]; omega))
      have pk := pk_; clear pk_
      have px_ : Box w1 (w.heap.size + 1) #[(.slice xA0 xn0 xc0), (.slice xA1 xn1 xc1), (.slice xA2 xn2 xc2), (.slice xA3 xn3 xc3), (.slice xA4 xn4 xc4), (.slice xA5 xn5 xc5)] 64 := ((Box.new (g := w.heap.size + 1) _ #[(.slice xA0 xn0 xc0), (.slice xA1 xn1 xc1), (.slice xA2 xn2 xc2), (.slice xA3 xn3 xc3), (.slice xA4 xn4 xc4), (.slice xA5 xn5 xc5)] 64 (by simp)).alloc _).below b1 (by first | omega | (simp [size_drew]; done) | (simp [size_drew]; omega))
      have px := px_; clear px_
      have py_ : Box w1 (w.heap.size + 1 + 1) #[(.slice yA0 yn0 yc0), (.slice yA1 yn1 yc1), (.slice yA2 yn2 yc2), (.slice yA3 yn3 yc3), (.slice yA4 yn4 yc4), (.slice yA5 yn5 yc5)] 64 := (Box.new (g := w.heap.size + 1 + 1) _ #[(.slice yA0 yn0 yc0), (.slice yA1 yn1 yc1), (.slice yA2 yn2 yc2), (.slice yA3 yn3 yc3), (.slice yA4 yn4 yc4), (.slice yA5 yn5 yc5)] 64 (by simp)).below b1 (by first | omega | (simp [size_drew]; done) | (simp [size_drew]; omega))
      have py := py_; clear py_
      obtain ⟨cpx_0, cpx_1, cpx_2, cpx_3, cpx_4, cpx_5, fpx_0, fpx_1, fpx_2, fpx_3, fpx_4, fpx_5⟩ := px.six
      have l_px_0 : w.heap.size + 1 < w1.heap.size := by omega
      go_wp2_with fail
      refine (szTriple_no xL0h.b xL1h.b xL2h.b xL3h.b xL4h.b xL5h.b (1048576 - (kL1.length)) _ (by first | rfl | simp) (by omega) (by omega)).mono ?_
      rintro e w2 ⟨rfl, b2⟩
      clear cpx_0 cpx_1 cpx_2 cpx_3 cpx_4 cpx_5 fpx_0 fpx_1 fpx_2 fpx_3 fpx_4 fpx_5 l_px_0
      have z2 := b2.size
      try simp only [World.size_alloc, World.size_setCell, size_drew] at z2
      have B2 : Below w.heap.size w w2 := Below.t b2
      have pk_ : Box w2 (w.heap.size) #[.int .i64 kI0, (.slice kA1 kn1 kc1)] 30 := pk.below b2 (by first | omega | (simp [size_drew]; done) | (simp [size_drew]; omega))
      clear pk; have pk := pk_; clear pk_
      have px_ : Box w2 (w.heap.size + 1) #[(.slice xA0 xn0 xc0), (.slice xA1 xn1 xc1), (.slice xA2 xn2 xc2), (.slice xA3 xn3 xc3), (.slice xA4 xn4 xc4), (.slice xA5 xn5 xc5)] 64 := px.below b2 (by first | omega | (simp [size_drew]; done) | (simp [size_drew]; omega))
      clear px; have px := px_; clear px_
      have py_ : Box w2 (w.heap.size + 1 + 1) #[(.slice yA0 yn0 yc0), (.slice yA1 yn1 yc1), (.slice yA2 yn2 yc2), (.slice yA3 yn3 yc3), (.slice yA4 yn4 yc4), (.slice yA5 yn5 yc5)] 64 := py.below b2 (by first | omega | (simp [size_drew]; done) | (simp [size_drew]; omega))
      clear py; have py := py_; clear py_
      go_wp2
      go_ret
      exact ⟨rfl, B2⟩
  · skip
    go_enter Try.func19, Try.ntmps19
    go_wp2_with fail
    refine (szKeys_no kI0 kL1h.b (1048576) _ (by first | rfl | simp) (by omega) (by omega)).mono ?_
    rintro e w1 ⟨rfl, b1⟩
    have z1 := b1.size
    try simp only [World.size_alloc, World.size_setCell, size_drew] at z1
    have B1 : Below w.heap.size w w1 := Below.t b1
    have pk_ : Box w1 (w.heap.size) #[.int .i64 kI0, (.slice kA1 kn1 kc1)] 30 := (((Box.new (g := w.heap.size) _ #[.int .i64 kI0, (.slice kA1 kn1 kc1)] 30 (by simp)).alloc _).alloc _).below b1 (by first | omega | (simp [size_drew]; done) | (simp [size_drew]; omega))
    have pk := pk_; clear pk_
    have px_ : Box w1 (w.heap.size + 1) #[(.slice xA0 xn0 xc0), (.slice xA1 xn1 xc1), (.slice xA2 xn2 xc2), (.slice xA3 xn3 xc3), (.slice xA4 xn4 xc4), (.slice xA5 xn5 xc5)] 64 := ((Box.new (g := w.heap.size + 1) _ #[(.slice xA0 xn0 xc0), (.slice xA1 xn1 xc1), (.slice xA2 xn2 xc2), (.slice xA3 xn3 xc3), (.slice xA4 xn4 xc4), (.slice xA5 xn5 xc5)] 64 (by simp)).alloc _).below b1 (by first | omega | (simp [size_drew]; done) | (simp [size_drew]; omega))
    have px := px_; clear px_
    have py_ : Box w1 (w.heap.size + 1 + 1) #[(.slice yA0 yn0 yc0), (.slice yA1 yn1 yc1), (.slice yA2 yn2 yc2), (.slice yA3 yn3 yc3), (.slice yA4 yn4 yc4), (.slice yA5 yn5 yc5)] 64 := (Box.new (g := w.heap.size + 1 + 1) _ #[(.slice yA0 yn0 yc0), (.slice yA1 yn1 yc1), (.slice yA2 yn2 yc2), (.slice yA3 yn3 yc3), (.slice yA4 yn4 yc4), (.slice yA5 yn5 yc5)] 64 (by simp)).below b1 (by first | omega | (simp [size_drew]; done) | (simp [size_drew]; omega))
    have py := py_; clear py_
    go_wp2
    go_ret
    exact ⟨rfl, B1⟩
end Go.Proofs.Ytllnnbmgdbinnaa

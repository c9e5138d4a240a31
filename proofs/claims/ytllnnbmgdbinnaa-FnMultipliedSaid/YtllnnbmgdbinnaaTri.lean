/- Contracts of TripleOk, TripleOpen. Printed by mac2.py. -/
import Derived.Test.YtllnnbmgdbinnaaTri0
namespace Go.Proofs.Ytllnnbmgdbinnaa
set_option linter.unusedSimpArgs false
set_option linter.unusedVariables false
open Go.RowKit
set_option maxRecDepth 100000 in
set_option maxHeartbeats 2000000 in
theorem sTripleOk_L {kA1 : Option Addr} {kn1 kc1 : Nat} {kL1 : List Int} {xA0 : Option Addr} {xn0 xc0 : Nat} {xL0 : List Int} {xA1 : Option Addr} {xn1 xc1 : Nat} {xL1 : List Int} {xA2 : Option Addr} {xn2 xc2 : Nat} {xL2 : List Int} {xA3 : Option Addr} {xn3 xc3 : Nat} {xL3 : List Int} {xA4 : Option Addr} {xn4 xc4 : Nat} {xL4 : List Int} {xA5 : Option Addr} {xn5 xc5 : Nat} {xL5 : List Int} {w : World} (kI0 : Int) (kH : RdL w [((.slice kA1 kn1 kc1), .ints kL1)]) (kL1n : kL1.length ≤ 1048576) (xH : RdL w [((.slice xA0 xn0 xc0), .ints xL0), ((.slice xA1 xn1 xc1), .ints xL1), ((.slice xA2 xn2 xc2), .ints xL2), ((.slice xA3 xn3 xc3), .ints xL3), ((.slice xA4 xn4 xc4), .ints xL4), ((.slice xA5 xn5 xc5), .ints xL5)]) (xL0n : xL0.length ≤ 1048576) (xL1n : xL1.length ≤ 1048576) (xL2n : xL2.length ≤ 1048576) (xL3n : xL3.length ≤ 1048576) (xL4n : xL4.length ≤ 1048576) (xL5n : xL5.length ≤ 1048576) :
    Calls Try.prog 59 #[.agg #[.int .i64 kI0, (.slice kA1 kn1 kc1)], .agg #[(.slice xA0 xn0 xc0), (.slice xA1 xn1 xc1), (.slice xA2 xn2 xc2), (.slice xA3 xn3 xc3), (.slice xA4 xn4 xc4), (.slice xA5 xn5 xc5)]] w fun e w' => e = .returned (.bool (tripleOk kI0 kL1 xL0 xL1 xL2 xL3 xL4 xL5)) ∧ Below w.heap.size w w' := by
  have kL1i : Ints w kA1 kn1 kL1 := Rd.toInts (kH ((.slice kA1 kn1 kc1), .ints kL1) (by simp))
  have kL1l := Lib.hid kL1i.len
  have kL1m : kn1 ≤ 1048576 := by rw [← kL1l.out]; exact kL1n
  have xL0i : Ints w xA0 xn0 xL0 := Rd.toInts (xH ((.slice xA0 xn0 xc0), .ints xL0) (by simp))
  have xL0l := Lib.hid xL0i.len
  have xL0m : xn0 ≤ 1048576 := by rw [← xL0l.out]; exact xL0n
  have xL1i : Ints w xA1 xn1 xL1 := Rd.toInts (xH ((.slice xA1 xn1 xc1), .ints xL1) (by simp))
  have xL1l := Lib.hid xL1i.len
  have xL1m : xn1 ≤ 1048576 := by rw [← xL1l.out]; exact xL1n
  have xL2i : Ints w xA2 xn2 xL2 := Rd.toInts (xH ((.slice xA2 xn2 xc2), .ints xL2) (by simp))
  have xL2l := Lib.hid xL2i.len
  have xL2m : xn2 ≤ 1048576 := by rw [← xL2l.out]; exact xL2n
  have xL3i : Ints w xA3 xn3 xL3 := Rd.toInts (xH ((.slice xA3 xn3 xc3), .ints xL3) (by simp))
  have xL3l := Lib.hid xL3i.len
  have xL3m : xn3 ≤ 1048576 := by rw [← xL3l.out]; exact xL3n
  have xL4i : Ints w xA4 xn4 xL4 := Rd.toInts (xH ((.slice xA4 xn4 xc4), .ints xL4) (by simp))
  have xL4l := Lib.hid xL4i.len
  have xL4m : xn4 ≤ 1048576 := by rw [← xL4l.out]; exact xL4n
  have xL5i : Ints w xA5 xn5 xL5 := Rd.toInts (xH ((.slice xA5 xn5 xc5), .ints xL5) (by simp))
  have xL5l := Lib.hid xL5i.len
  have xL5m : xn5 ≤ 1048576 := by rw [← xL5l.out]; exact xL5n
  have HE : Hid (tripleOk kI0 kL1 xL0 xL1 xL2 xL3 xL4 xL5 = (authOk kI0 kL1 xL0 xL1 && authOk kI0 kL1 xL2 xL3 && authOk kI0 kL1 xL4 xL5 && (fsum kI0 xL4 == fmul kI0 (fsum kI0 xL0) (fsum kI0 xL2)))) := rfl
  cases k1 : authOk kI0 kL1 xL0 xL1 with
  | false =>
    go_enter Try.func59, Try.ntmps59
    go_wp2_with fail
    refine wp_region_held_drew (S := fun W => W.cell? ⟨w.heap.size, 0, none⟩ = some (.int .i64 kI0) ∧ W.cell? ⟨w.heap.size, 1, none⟩ = some ((.slice kA1 kn1 kc1)) ∧ W.cell? ⟨w.heap.size + 1, 0, none⟩ = some ((.slice xA0 xn0 xc0)) ∧ W.cell? ⟨w.heap.size + 1, 1, none⟩ = some ((.slice xA1 xn1 xc1)) ∧ W.cell? ⟨w.heap.size + 1, 2, none⟩ = some ((.slice xA2 xn2 xc2)) ∧ W.cell? ⟨w.heap.size + 1, 3, none⟩ = some ((.slice xA3 xn3 xc3)) ∧ W.cell? ⟨w.heap.size + 1, 4, none⟩ = some ((.slice xA4 xn4 xc4)) ∧ W.cell? ⟨w.heap.size + 1, 5, none⟩ = some ((.slice xA5 xn5 xc5))) (by kernel_rfl) ⟨((Box.new (g := w.heap.size) _ #[.int .i64 kI0, (.slice kA1 kn1 kc1)] 33 (by simp)).alloc _).drew.two.1, ((Box.new (g := w.heap.size) _ #[.int .i64 kI0, (.slice kA1 kn1 kc1)] 33 (by simp)).alloc _).drew.two.2.1, (Box.new (g := w.heap.size + 1) _ #[(.slice xA0 xn0 xc0), (.slice xA1 xn1 xc1), (.slice xA2 xn2 xc2), (.slice xA3 xn3 xc3), (.slice xA4 xn4 xc4), (.slice xA5 xn5 xc5)] 68 (by simp)).drew.six.1, (Box.new (g := w.heap.size + 1) _ #[(.slice xA0 xn0 xc0), (.slice xA1 xn1 xc1), (.slice xA2 xn2 xc2), (.slice xA3 xn3 xc3), (.slice xA4 xn4 xc4), (.slice xA5 xn5 xc5)] 68 (by simp)).drew.six.2.1, (Box.new (g := w.heap.size + 1) _ #[(.slice xA0 xn0 xc0), (.slice xA1 xn1 xc1), (.slice xA2 xn2 xc2), (.slice xA3 xn3 xc3), (.slice xA4 xn4 xc4), (.slice xA5 xn5 xc5)] 68 (by simp)).drew.six.2.2.1, (Box.new (g := w.heap.size + 1) _ #[(.slice xA0 xn0 xc0), (.slice xA1 xn1 xc1), (.slice xA2 xn2 xc2), (.slice xA3 xn3 xc3), (.slice xA4 xn4 xc4), (.slice xA5 xn5 xc5)] 68 (by simp)).drew.six.2.2.2.1, (Box.new (g := w.heap.size + 1) _ #[(.slice xA0 xn0 xc0), (.slice xA1 xn1 xc1), (.slice xA2 xn2 xc2), (.slice xA3 xn3 xc3), (.slice xA4 xn4 xc4), (.slice xA5 xn5 xc5)] 68 (by simp)).drew.six.2.2.2.2.1, (Box.new (g := w.heap.size + 1) _ #[(.slice xA0 xn0 xc0), (.slice xA1 xn1 xc1), (.slice xA2 xn2 xc2), (.slice xA3 xn3 xc3), (.slice xA4 xn4 xc4), (.slice xA5 xn5 xc5)] 68 (by simp)).drew.six.2.2.2.2.2.1⟩ (fun hS => ?_)
    (refine tk 0 hS ?_; (try simp only [Act.put, layA, layB, layC]))
    (refine tk 1 hS ?_; (try simp only [Act.put, layA, layB, layC]))
    (refine tk 2 hS ?_; (try simp only [Act.put, layA, layB, layC]))
    refine on 3 ?_
    refine callH (by go_simp; (first | done | with_reducible rfl | exact ⟨rfl, rfl⟩)) ?_
    go_at_call 44
    refine (sAuthOk_L kI0 (RdL.b kH) kL1n (RdL.b (ls := [((.slice xA0 xn0 xc0), .ints xL0), ((.slice xA1 xn1 xc1), .ints xL1)]) (RdL.sub xH (by simp))) xL0n xL1n).mono ?_
    rintro e w1 ⟨rfl, b1⟩
    clear hS
    have z1 := Below.size b1
    (try simp only [World.size_alloc, World.size_setCell, size_drew] at z1)
    have B1 : Below w.heap.size w w1 := Below.t b1
    have xk_ : Box w1 (w.heap.size) #[.int .i64 kI0, (.slice kA1 kn1 kc1)] 33 := (Box.b ((Box.new (g := w.heap.size) _ #[.int .i64 kI0, (.slice kA1 kn1 kc1)] 33 (by simp)).alloc _).drew b1)
    have xk := xk_; clear xk_
    have xx_ : Box w1 (w.heap.size + 1) #[(.slice xA0 xn0 xc0), (.slice xA1 xn1 xc1), (.slice xA2 xn2 xc2), (.slice xA3 xn3 xc3), (.slice xA4 xn4 xc4), (.slice xA5 xn5 xc5)] 68 := (Box.b (Box.new (g := w.heap.size + 1) _ #[(.slice xA0 xn0 xc0), (.slice xA1 xn1 xc1), (.slice xA2 xn2 xc2), (.slice xA3 xn3 xc3), (.slice xA4 xn4 xc4), (.slice xA5 xn5 xc5)] 68 (by simp)).drew b1)
    have xx := xx_; clear xx_
    refine ⟨.bool false, by rw [k1], ⟨xk.two.1, xk.two.2.1, xx.six.1, xx.six.2.1, xx.six.2.2.1, xx.six.2.2.2.1, xx.six.2.2.2.2.1, xx.six.2.2.2.2.2.1⟩, fun hS => ?_⟩
    (try simp only [Act.put, layA, layB, layC])
    (refine tk 4 hS ?_; (try simp only [Act.put, layA, layB, layC]))
    (refine ps 5 hS ?_; (try simp only [Act.put, layA, layB, layC]))
    (refine ps 6 hS ?_; (try simp only [Act.put, layA, layB, layC]))
    (refine ps 7 hS ?_; (try simp only [Act.put, layA, layB, layC]))
    (refine ps 8 hS ?_; (try simp only [Act.put, layA, layB, layC]))
    (refine tk 9 hS ?_; (try simp only [Act.put, layA, layB, layC]))
    (refine tk 10 hS ?_; (try simp only [Act.put, layA, layB, layC]))
    (refine ps 11 hS ?_; (try simp only [Act.put, layA, layB, layC]))
    (refine ps 12 hS ?_; (try simp only [Act.put, layA, layB, layC]))
    (refine ps 13 hS ?_; (try simp only [Act.put, layA, layB, layC]))
    (refine ps 14 hS ?_; (try simp only [Act.put, layA, layB, layC]))
    (refine tk 15 hS ?_; (try simp only [Act.put, layA, layB, layC]))
    (refine tk 16 hS ?_; (try simp only [Act.put, layA, layB, layC]))
    (refine ps 17 hS ?_; (try simp only [Act.put, layA, layB, layC]))
    (refine ps 18 hS ?_; (try simp only [Act.put, layA, layB, layC]))
    (refine ps 19 hS ?_; (try simp only [Act.put, layA, layB, layC]))
    (refine ps 20 hS ?_; (try simp only [Act.put, layA, layB, layC]))
    (refine ps 21 hS ?_; (try simp only [Act.put, layA, layB, layC]))
    (refine ps 22 hS ?_; (try simp only [Act.put, layA, layB, layC]))
    (refine ps 23 hS ?_; (try simp only [Act.put, layA, layB, layC]))
    (refine ps 24 hS ?_; (try simp only [Act.put, layA, layB, layC]))
    (refine ps 25 hS ?_; (try simp only [Act.put, layA, layB, layC]))
    (refine ps 26 hS ?_; (try simp only [Act.put, layA, layB, layC]))
    (refine ps 27 hS ?_; (try simp only [Act.put, layA, layB, layC]))
    (refine ps 28 hS ?_; (try simp only [Act.put, layA, layB, layC]))
    (refine ps 29 hS ?_; (try simp only [Act.put, layA, layB, layC]))
    (refine ps 30 hS ?_; (try simp only [Act.put, layA, layB, layC]))
    (refine ps 31 hS ?_; (try simp only [Act.put, layA, layB, layC]))
    (refine ps 32 hS ?_; (try simp only [Act.put, layA, layB, layC]))
    (refine tk 33 hS ?_; (try simp only [Act.put, layA, layB, layC]))
    (refine tk 34 hS ?_; (try simp only [Act.put, layA, layB, layC]))
    clear hS
    refine wpAnyH_done (by kernel_rfl) ?_ _
    go_wp2
    go_ret
    exact ⟨ret_bool (by rw [HE.out, k1]; simp), by repeat (with_reducible (first | assumption | exact Below.refl _ _ | refine Below.alloc ?_ (by first | omega | (simp; done) | (simp; omega)) _ | refine Below.setCell ?_ (by first | omega | (simp; done) | (simp; omega)) _ | refine Below.drew ?_ | refine below_drewN ?_ _))⟩
  | true =>
    cases k2 : authOk kI0 kL1 xL2 xL3 with
    | false =>
      go_enter Try.func59, Try.ntmps59
      go_wp2_with fail
      refine wp_region_held_drew (S := fun W => W.cell? ⟨w.heap.size, 0, none⟩ = some (.int .i64 kI0) ∧ W.cell? ⟨w.heap.size, 1, none⟩ = some ((.slice kA1 kn1 kc1)) ∧ W.cell? ⟨w.heap.size + 1, 0, none⟩ = some ((.slice xA0 xn0 xc0)) ∧ W.cell? ⟨w.heap.size + 1, 1, none⟩ = some ((.slice xA1 xn1 xc1)) ∧ W.cell? ⟨w.heap.size + 1, 2, none⟩ = some ((.slice xA2 xn2 xc2)) ∧ W.cell? ⟨w.heap.size + 1, 3, none⟩ = some ((.slice xA3 xn3 xc3)) ∧ W.cell? ⟨w.heap.size + 1, 4, none⟩ = some ((.slice xA4 xn4 xc4)) ∧ W.cell? ⟨w.heap.size + 1, 5, none⟩ = some ((.slice xA5 xn5 xc5))) (by kernel_rfl) ⟨((Box.new (g := w.heap.size) _ #[.int .i64 kI0, (.slice kA1 kn1 kc1)] 33 (by simp)).alloc _).drew.two.1, ((Box.new (g := w.heap.size) _ #[.int .i64 kI0, (.slice kA1 kn1 kc1)] 33 (by simp)).alloc _).drew.two.2.1, (Box.new (g := w.heap.size + 1) _ #[(.slice xA0 xn0 xc0), (.slice xA1 xn1 xc1), (.slice xA2 xn2 xc2), (.slice xA3 xn3 xc3), (.slice xA4 xn4 xc4), (.slice xA5 xn5 xc5)] 68 (by simp)).drew.six.1, (Box.new (g := w.heap.size + 1) _ #[(.slice xA0 xn0 xc0), (.slice xA1 xn1 xc1), (.slice xA2 xn2 xc2), (.slice xA3 xn3 xc3), (.slice xA4 xn4 xc4), (.slice xA5 xn5 xc5)] 68 (by simp)).drew.six.2.1, (Box.new (g := w.heap.size + 1) _ #[(.slice xA0 xn0 xc0), (.slice xA1 xn1 xc1), (.slice xA2 xn2 xc2), (.slice xA3 xn3 xc3), (.slice xA4 xn4 xc4), (.slice xA5 xn5 xc5)] 68 (by simp)).drew.six.2.2.1, (Box.new (g := w.heap.size + 1) _ #[(.slice xA0 xn0 xc0), (.slice xA1 xn1 xc1), (.slice xA2 xn2 xc2), (.slice xA3 xn3 xc3), (.slice xA4 xn4 xc4), (.slice xA5 xn5 xc5)] 68 (by simp)).drew.six.2.2.2.1, (Box.new (g := w.heap.size + 1) _ #[(.slice xA0 xn0 xc0), (.slice xA1 xn1 xc1), (.slice xA2 xn2 xc2), (.slice xA3 xn3 xc3), (.slice xA4 xn4 xc4), (.slice xA5 xn5 xc5)] 68 (by simp)).drew.six.2.2.2.2.1, (Box.new (g := w.heap.size + 1) _ #[(.slice xA0 xn0 xc0), (.slice xA1 xn1 xc1), (.slice xA2 xn2 xc2), (.slice xA3 xn3 xc3), (.slice xA4 xn4 xc4), (.slice xA5 xn5 xc5)] 68 (by simp)).drew.six.2.2.2.2.2.1⟩ (fun hS => ?_)
      (refine tk 0 hS ?_; (try simp only [Act.put, layA, layB, layC]))
      (refine tk 1 hS ?_; (try simp only [Act.put, layA, layB, layC]))
      (refine tk 2 hS ?_; (try simp only [Act.put, layA, layB, layC]))
      refine on 3 ?_
      refine callH (by go_simp; (first | done | with_reducible rfl | exact ⟨rfl, rfl⟩)) ?_
      go_at_call 44
      refine (sAuthOk_L kI0 (RdL.b kH) kL1n (RdL.b (ls := [((.slice xA0 xn0 xc0), .ints xL0), ((.slice xA1 xn1 xc1), .ints xL1)]) (RdL.sub xH (by simp))) xL0n xL1n).mono ?_
      rintro e w1 ⟨rfl, b1⟩
      clear hS
      have z1 := Below.size b1
      (try simp only [World.size_alloc, World.size_setCell, size_drew] at z1)
      have B1 : Below w.heap.size w w1 := Below.t b1
      have xk_ : Box w1 (w.heap.size) #[.int .i64 kI0, (.slice kA1 kn1 kc1)] 33 := (Box.b ((Box.new (g := w.heap.size) _ #[.int .i64 kI0, (.slice kA1 kn1 kc1)] 33 (by simp)).alloc _).drew b1)
      have xk := xk_; clear xk_
      have xx_ : Box w1 (w.heap.size + 1) #[(.slice xA0 xn0 xc0), (.slice xA1 xn1 xc1), (.slice xA2 xn2 xc2), (.slice xA3 xn3 xc3), (.slice xA4 xn4 xc4), (.slice xA5 xn5 xc5)] 68 := (Box.b (Box.new (g := w.heap.size + 1) _ #[(.slice xA0 xn0 xc0), (.slice xA1 xn1 xc1), (.slice xA2 xn2 xc2), (.slice xA3 xn3 xc3), (.slice xA4 xn4 xc4), (.slice xA5 xn5 xc5)] 68 (by simp)).drew b1)
      have xx := xx_; clear xx_
      refine ⟨.bool true, by rw [k1], ⟨xk.two.1, xk.two.2.1, xx.six.1, xx.six.2.1, xx.six.2.2.1, xx.six.2.2.2.1, xx.six.2.2.2.2.1, xx.six.2.2.2.2.2.1⟩, fun hS => ?_⟩
      (try simp only [Act.put, layA, layB, layC])
      (refine tk 4 hS ?_; (try simp only [Act.put, layA, layB, layC]))
      (refine tk 5 hS ?_; (try simp only [Act.put, layA, layB, layC]))
      (refine tk 6 hS ?_; (try simp only [Act.put, layA, layB, layC]))
      (refine tk 7 hS ?_; (try simp only [Act.put, layA, layB, layC]))
      refine on 8 ?_
      refine callH (by go_simp; (first | done | with_reducible rfl | exact ⟨rfl, rfl⟩)) ?_
      go_at_call 44
      refine (sAuthOk_L kI0 (RdL.b kH) kL1n (RdL.b (ls := [((.slice xA2 xn2 xc2), .ints xL2), ((.slice xA3 xn3 xc3), .ints xL3)]) (RdL.sub xH (by simp))) xL2n xL3n).mono ?_
      rintro e w2 ⟨rfl, b2⟩
      clear hS
      have z2 := Below.size b2
      (try simp only [World.size_alloc, World.size_setCell, size_drew] at z2)
      have B2 : Below w.heap.size w w2 := Below.t b2
      have xk_ : Box w2 (w.heap.size) #[.int .i64 kI0, (.slice kA1 kn1 kc1)] 33 := (Box.b xk b2)
      clear xk; have xk := xk_; clear xk_
      have xx_ : Box w2 (w.heap.size + 1) #[(.slice xA0 xn0 xc0), (.slice xA1 xn1 xc1), (.slice xA2 xn2 xc2), (.slice xA3 xn3 xc3), (.slice xA4 xn4 xc4), (.slice xA5 xn5 xc5)] 68 := (Box.b xx b2)
      clear xx; have xx := xx_; clear xx_
      refine ⟨.bool false, by rw [k2], ⟨xk.two.1, xk.two.2.1, xx.six.1, xx.six.2.1, xx.six.2.2.1, xx.six.2.2.2.1, xx.six.2.2.2.2.1, xx.six.2.2.2.2.2.1⟩, fun hS => ?_⟩
      (try simp only [Act.put, layA, layB, layC])
      (refine tk 9 hS ?_; (try simp only [Act.put, layA, layB, layC]))
      (refine tk 10 hS ?_; (try simp only [Act.put, layA, layB, layC]))
      (refine ps 11 hS ?_; (try simp only [Act.put, layA, layB, layC]))
      (refine ps 12 hS ?_; (try simp only [Act.put, layA, layB, layC]))
      (refine ps 13 hS ?_; (try simp only [Act.put, layA, layB, layC]))
      (refine ps 14 hS ?_; (try simp only [Act.put, layA, layB, layC]))
      (refine tk 15 hS ?_; (try simp only [Act.put, layA, layB, layC]))
      (refine tk 16 hS ?_; (try simp only [Act.put, layA, layB, layC]))
      (refine ps 17 hS ?_; (try simp only [Act.put, layA, layB, layC]))
      (refine ps 18 hS ?_; (try simp only [Act.put, layA, layB, layC]))
      (refine ps 19 hS ?_; (try simp only [Act.put, layA, layB, layC]))
      (refine ps 20 hS ?_; (try simp only [Act.put, layA, layB, layC]))
      (refine ps 21 hS ?_; (try simp only [Act.put, layA, layB, layC]))
      (refine ps 22 hS ?_; (try simp only [Act.put, layA, layB, layC]))
      (refine ps 23 hS ?_; (try simp only [Act.put, layA, layB, layC]))
      (refine ps 24 hS ?_; (try simp only [Act.put, layA, layB, layC]))
      (refine ps 25 hS ?_; (try simp only [Act.put, layA, layB, layC]))
      (refine ps 26 hS ?_; (try simp only [Act.put, layA, layB, layC]))
      (refine ps 27 hS ?_; (try simp only [Act.put, layA, layB, layC]))
      (refine ps 28 hS ?_; (try simp only [Act.put, layA, layB, layC]))
      (refine ps 29 hS ?_; (try simp only [Act.put, layA, layB, layC]))
      (refine ps 30 hS ?_; (try simp only [Act.put, layA, layB, layC]))
      (refine ps 31 hS ?_; (try simp only [Act.put, layA, layB, layC]))
      (refine ps 32 hS ?_; (try simp only [Act.put, layA, layB, layC]))
      (refine tk 33 hS ?_; (try simp only [Act.put, layA, layB, layC]))
      (refine tk 34 hS ?_; (try simp only [Act.put, layA, layB, layC]))
      clear hS
      refine wpAnyH_done (by kernel_rfl) ?_ _
      go_wp2
      go_ret
      exact ⟨ret_bool (by rw [HE.out, k1, k2]; simp), by repeat (with_reducible (first | assumption | exact Below.refl _ _ | refine Below.alloc ?_ (by first | omega | (simp; done) | (simp; omega)) _ | refine Below.setCell ?_ (by first | omega | (simp; done) | (simp; omega)) _ | refine Below.drew ?_ | refine below_drewN ?_ _))⟩
    | true =>
      cases k3 : authOk kI0 kL1 xL4 xL5 with
      | false =>
        go_enter Try.func59, Try.ntmps59
        go_wp2_with fail
        refine wp_region_held_drew (S := fun W => W.cell? ⟨w.heap.size, 0, none⟩ = some (.int .i64 kI0) ∧ W.cell? ⟨w.heap.size, 1, none⟩ = some ((.slice kA1 kn1 kc1)) ∧ W.cell? ⟨w.heap.size + 1, 0, none⟩ = some ((.slice xA0 xn0 xc0)) ∧ W.cell? ⟨w.heap.size + 1, 1, none⟩ = some ((.slice xA1 xn1 xc1)) ∧ W.cell? ⟨w.heap.size + 1, 2, none⟩ = some ((.slice xA2 xn2 xc2)) ∧ W.cell? ⟨w.heap.size + 1, 3, none⟩ = some ((.slice xA3 xn3 xc3)) ∧ W.cell? ⟨w.heap.size + 1, 4, none⟩ = some ((.slice xA4 xn4 xc4)) ∧ W.cell? ⟨w.heap.size + 1, 5, none⟩ = some ((.slice xA5 xn5 xc5))) (by kernel_rfl) ⟨((Box.new (g := w.heap.size) _ #[.int .i64 kI0, (.slice kA1 kn1 kc1)] 33 (by simp)).alloc _).drew.two.1, ((Box.new (g := w.heap.size) _ #[.int .i64 kI0, (.slice kA1 kn1 kc1)] 33 (by simp)).alloc _).drew.two.2.1, (Box.new (g := w.heap.size + 1) _ #[(.slice xA0 xn0 xc0), (.slice xA1 xn1 xc1), (.slice xA2 xn2 xc2), (.slice xA3 xn3 xc3), (.slice xA4 xn4 xc4), (.slice xA5 xn5 xc5)] 68 (by simp)).drew.six.1, (Box.new (g := w.heap.size + 1) _ #[(.slice xA0 xn0 xc0), (.slice xA1 xn1 xc1), (.slice xA2 xn2 xc2), (.slice xA3 xn3 xc3), (.slice xA4 xn4 xc4), (.slice xA5 xn5 xc5)] 68 (by simp)).drew.six.2.1, (Box.new (g := w.heap.size + 1) _ #[(.slice xA0 xn0 xc0), (.slice xA1 xn1 xc1), (.slice xA2 xn2 xc2), (.slice xA3 xn3 xc3), (.slice xA4 xn4 xc4), (.slice xA5 xn5 xc5)] 68 (by simp)).drew.six.2.2.1, (Box.new (g := w.heap.size + 1) _ #[(.slice xA0 xn0 xc0), (.slice xA1 xn1 xc1), (.slice xA2 xn2 xc2), (.slice xA3 xn3 xc3), (.slice xA4 xn4 xc4), (.slice xA5 xn5 xc5)] 68 (by simp)).drew.six.2.2.2.1, (Box.new (g := w.heap.size + 1) _ #[(.slice xA0 xn0 xc0), (.slice xA1 xn1 xc1), (.slice xA2 xn2 xc2), (.slice xA3 xn3 xc3), (.slice xA4 xn4 xc4), (.slice xA5 xn5 xc5)] 68 (by simp)).drew.six.2.2.2.2.1, (Box.new (g := w.heap.size + 1) _ #[(.slice xA0 xn0 xc0), (.slice xA1 xn1 xc1), (.slice xA2 xn2 xc2), (.slice xA3 xn3 xc3), (.slice xA4 xn4 xc4), (.slice xA5 xn5 xc5)] 68 (by simp)).drew.six.2.2.2.2.2.1⟩ (fun hS => ?_)
        (refine tk 0 hS ?_; (try simp only [Act.put, layA, layB, layC]))
        (refine tk 1 hS ?_; (try simp only [Act.put, layA, layB, layC]))
        (refine tk 2 hS ?_; (try simp only [Act.put, layA, layB, layC]))
        refine on 3 ?_
        refine callH (by go_simp; (first | done | with_reducible rfl | exact ⟨rfl, rfl⟩)) ?_
        go_at_call 44
        refine (sAuthOk_L kI0 (RdL.b kH) kL1n (RdL.b (ls := [((.slice xA0 xn0 xc0), .ints xL0), ((.slice xA1 xn1 xc1), .ints xL1)]) (RdL.sub xH (by simp))) xL0n xL1n).mono ?_
        rintro e w1 ⟨rfl, b1⟩
        clear hS
        have z1 := Below.size b1
        (try simp only [World.size_alloc, World.size_setCell, size_drew] at z1)
        have B1 : Below w.heap.size w w1 := Below.t b1
        have xk_ : Box w1 (w.heap.size) #[.int .i64 kI0, (.slice kA1 kn1 kc1)] 33 := (Box.b ((Box.new (g := w.heap.size) _ #[.int .i64 kI0, (.slice kA1 kn1 kc1)] 33 (by simp)).alloc _).drew b1)
        have xk := xk_; clear xk_
        have xx_ : Box w1 (w.heap.size + 1) #[(.slice xA0 xn0 xc0), (.slice xA1 xn1 xc1), (.slice xA2 xn2 xc2), (.slice xA3 xn3 xc3), (.slice xA4 xn4 xc4), (.slice xA5 xn5 xc5)] 68 := (Box.b (Box.new (g := w.heap.size + 1) _ #[(.slice xA0 xn0 xc0), (.slice xA1 xn1 xc1), (.slice xA2 xn2 xc2), (.slice xA3 xn3 xc3), (.slice xA4 xn4 xc4), (.slice xA5 xn5 xc5)] 68 (by simp)).drew b1)
        have xx := xx_; clear xx_
        refine ⟨.bool true, by rw [k1], ⟨xk.two.1, xk.two.2.1, xx.six.1, xx.six.2.1, xx.six.2.2.1, xx.six.2.2.2.1, xx.six.2.2.2.2.1, xx.six.2.2.2.2.2.1⟩, fun hS => ?_⟩
        (try simp only [Act.put, layA, layB, layC])
        (refine tk 4 hS ?_; (try simp only [Act.put, layA, layB, layC]))
        (refine tk 5 hS ?_; (try simp only [Act.put, layA, layB, layC]))
        (refine tk 6 hS ?_; (try simp only [Act.put, layA, layB, layC]))
        (refine tk 7 hS ?_; (try simp only [Act.put, layA, layB, layC]))
        refine on 8 ?_
        refine callH (by go_simp; (first | done | with_reducible rfl | exact ⟨rfl, rfl⟩)) ?_
        go_at_call 44
        refine (sAuthOk_L kI0 (RdL.b kH) kL1n (RdL.b (ls := [((.slice xA2 xn2 xc2), .ints xL2), ((.slice xA3 xn3 xc3), .ints xL3)]) (RdL.sub xH (by simp))) xL2n xL3n).mono ?_
        rintro e w2 ⟨rfl, b2⟩
        clear hS
        have z2 := Below.size b2
        (try simp only [World.size_alloc, World.size_setCell, size_drew] at z2)
        have B2 : Below w.heap.size w w2 := Below.t b2
        have xk_ : Box w2 (w.heap.size) #[.int .i64 kI0, (.slice kA1 kn1 kc1)] 33 := (Box.b xk b2)
        clear xk; have xk := xk_; clear xk_
        have xx_ : Box w2 (w.heap.size + 1) #[(.slice xA0 xn0 xc0), (.slice xA1 xn1 xc1), (.slice xA2 xn2 xc2), (.slice xA3 xn3 xc3), (.slice xA4 xn4 xc4), (.slice xA5 xn5 xc5)] 68 := (Box.b xx b2)
        clear xx; have xx := xx_; clear xx_
        refine ⟨.bool true, by rw [k2], ⟨xk.two.1, xk.two.2.1, xx.six.1, xx.six.2.1, xx.six.2.2.1, xx.six.2.2.2.1, xx.six.2.2.2.2.1, xx.six.2.2.2.2.2.1⟩, fun hS => ?_⟩
        (try simp only [Act.put, layA, layB, layC])
        (refine tk 9 hS ?_; (try simp only [Act.put, layA, layB, layC]))
        (refine tk 10 hS ?_; (try simp only [Act.put, layA, layB, layC]))
        (refine tk 11 hS ?_; (try simp only [Act.put, layA, layB, layC]))
        (refine tk 12 hS ?_; (try simp only [Act.put, layA, layB, layC]))
        (refine tk 13 hS ?_; (try simp only [Act.put, layA, layB, layC]))
        refine on 14 ?_
        refine callH (by go_simp; (first | done | with_reducible rfl | exact ⟨rfl, rfl⟩)) ?_
        go_at_call 44
        refine (sAuthOk_L kI0 (RdL.b kH) kL1n (RdL.b (ls := [((.slice xA4 xn4 xc4), .ints xL4), ((.slice xA5 xn5 xc5), .ints xL5)]) (RdL.sub xH (by simp))) xL4n xL5n).mono ?_
        rintro e w3 ⟨rfl, b3⟩
        clear hS
        have z3 := Below.size b3
        (try simp only [World.size_alloc, World.size_setCell, size_drew] at z3)
        have B3 : Below w.heap.size w w3 := Below.t b3
        have xk_ : Box w3 (w.heap.size) #[.int .i64 kI0, (.slice kA1 kn1 kc1)] 33 := (Box.b xk b3)
        clear xk; have xk := xk_; clear xk_
        have xx_ : Box w3 (w.heap.size + 1) #[(.slice xA0 xn0 xc0), (.slice xA1 xn1 xc1), (.slice xA2 xn2 xc2), (.slice xA3 xn3 xc3), (.slice xA4 xn4 xc4), (.slice xA5 xn5 xc5)] 68 := (Box.b xx b3)
        clear xx; have xx := xx_; clear xx_
        refine ⟨.bool false, by rw [k3], ⟨xk.two.1, xk.two.2.1, xx.six.1, xx.six.2.1, xx.six.2.2.1, xx.six.2.2.2.1, xx.six.2.2.2.2.1, xx.six.2.2.2.2.2.1⟩, fun hS => ?_⟩
        (try simp only [Act.put, layA, layB, layC])
        (refine tk 15 hS ?_; (try simp only [Act.put, layA, layB, layC]))
        (refine tk 16 hS ?_; (try simp only [Act.put, layA, layB, layC]))
        (refine ps 17 hS ?_; (try simp only [Act.put, layA, layB, layC]))
        (refine ps 18 hS ?_; (try simp only [Act.put, layA, layB, layC]))
        (refine ps 19 hS ?_; (try simp only [Act.put, layA, layB, layC]))
        (refine ps 20 hS ?_; (try simp only [Act.put, layA, layB, layC]))
        (refine ps 21 hS ?_; (try simp only [Act.put, layA, layB, layC]))
        (refine ps 22 hS ?_; (try simp only [Act.put, layA, layB, layC]))
        (refine ps 23 hS ?_; (try simp only [Act.put, layA, layB, layC]))
        (refine ps 24 hS ?_; (try simp only [Act.put, layA, layB, layC]))
        (refine ps 25 hS ?_; (try simp only [Act.put, layA, layB, layC]))
        (refine ps 26 hS ?_; (try simp only [Act.put, layA, layB, layC]))
        (refine ps 27 hS ?_; (try simp only [Act.put, layA, layB, layC]))
        (refine ps 28 hS ?_; (try simp only [Act.put, layA, layB, layC]))
        (refine ps 29 hS ?_; (try simp only [Act.put, layA, layB, layC]))
        (refine ps 30 hS ?_; (try simp only [Act.put, layA, layB, layC]))
        (refine ps 31 hS ?_; (try simp only [Act.put, layA, layB, layC]))
        (refine ps 32 hS ?_; (try simp only [Act.put, layA, layB, layC]))
        (refine tk 33 hS ?_; (try simp only [Act.put, layA, layB, layC]))
        (refine tk 34 hS ?_; (try simp only [Act.put, layA, layB, layC]))
        clear hS
        refine wpAnyH_done (by kernel_rfl) ?_ _
        go_wp2
        go_ret
        exact ⟨ret_bool (by rw [HE.out, k1, k2, k3]; simp), by repeat (with_reducible (first | assumption | exact Below.refl _ _ | refine Below.alloc ?_ (by first | omega | (simp; done) | (simp; omega)) _ | refine Below.setCell ?_ (by first | omega | (simp; done) | (simp; omega)) _ | refine Below.drew ?_ | refine below_drewN ?_ _))⟩
      | true =>
        go_enter Try.func59, Try.ntmps59
        go_wp2_with fail
        refine wp_region_held_drew (S := fun W => W.cell? ⟨w.heap.size, 0, none⟩ = some (.int .i64 kI0) ∧ W.cell? ⟨w.heap.size, 1, none⟩ = some ((.slice kA1 kn1 kc1)) ∧ W.cell? ⟨w.heap.size + 1, 0, none⟩ = some ((.slice xA0 xn0 xc0)) ∧ W.cell? ⟨w.heap.size + 1, 1, none⟩ = some ((.slice xA1 xn1 xc1)) ∧ W.cell? ⟨w.heap.size + 1, 2, none⟩ = some ((.slice xA2 xn2 xc2)) ∧ W.cell? ⟨w.heap.size + 1, 3, none⟩ = some ((.slice xA3 xn3 xc3)) ∧ W.cell? ⟨w.heap.size + 1, 4, none⟩ = some ((.slice xA4 xn4 xc4)) ∧ W.cell? ⟨w.heap.size + 1, 5, none⟩ = some ((.slice xA5 xn5 xc5))) (by kernel_rfl) ⟨((Box.new (g := w.heap.size) _ #[.int .i64 kI0, (.slice kA1 kn1 kc1)] 33 (by simp)).alloc _).drew.two.1, ((Box.new (g := w.heap.size) _ #[.int .i64 kI0, (.slice kA1 kn1 kc1)] 33 (by simp)).alloc _).drew.two.2.1, (Box.new (g := w.heap.size + 1) _ #[(.slice xA0 xn0 xc0), (.slice xA1 xn1 xc1), (.slice xA2 xn2 xc2), (.slice xA3 xn3 xc3), (.slice xA4 xn4 xc4), (.slice xA5 xn5 xc5)] 68 (by simp)).drew.six.1, (Box.new (g := w.heap.size + 1) _ #[(.slice xA0 xn0 xc0), (.slice xA1 xn1 xc1), (.slice xA2 xn2 xc2), (.slice xA3 xn3 xc3), (.slice xA4 xn4 xc4), (.slice xA5 xn5 xc5)] 68 (by simp)).drew.six.2.1, (Box.new (g := w.heap.size + 1) _ #[(.slice xA0 xn0 xc0), (.slice xA1 xn1 xc1), (.slice xA2 xn2 xc2), (.slice xA3 xn3 xc3), (.slice xA4 xn4 xc4), (.slice xA5 xn5 xc5)] 68 (by simp)).drew.six.2.2.1, (Box.new (g := w.heap.size + 1) _ #[(.slice xA0 xn0 xc0), (.slice xA1 xn1 xc1), (.slice xA2 xn2 xc2), (.slice xA3 xn3 xc3), (.slice xA4 xn4 xc4), (.slice xA5 xn5 xc5)] 68 (by simp)).drew.six.2.2.2.1, (Box.new (g := w.heap.size + 1) _ #[(.slice xA0 xn0 xc0), (.slice xA1 xn1 xc1), (.slice xA2 xn2 xc2), (.slice xA3 xn3 xc3), (.slice xA4 xn4 xc4), (.slice xA5 xn5 xc5)] 68 (by simp)).drew.six.2.2.2.2.1, (Box.new (g := w.heap.size + 1) _ #[(.slice xA0 xn0 xc0), (.slice xA1 xn1 xc1), (.slice xA2 xn2 xc2), (.slice xA3 xn3 xc3), (.slice xA4 xn4 xc4), (.slice xA5 xn5 xc5)] 68 (by simp)).drew.six.2.2.2.2.2.1⟩ (fun hS => ?_)
        (refine tk 0 hS ?_; (try simp only [Act.put, layA, layB, layC]))
        (refine tk 1 hS ?_; (try simp only [Act.put, layA, layB, layC]))
        (refine tk 2 hS ?_; (try simp only [Act.put, layA, layB, layC]))
        refine on 3 ?_
        refine callH (by go_simp; (first | done | with_reducible rfl | exact ⟨rfl, rfl⟩)) ?_
        go_at_call 44
        refine (sAuthOk_L kI0 (RdL.b kH) kL1n (RdL.b (ls := [((.slice xA0 xn0 xc0), .ints xL0), ((.slice xA1 xn1 xc1), .ints xL1)]) (RdL.sub xH (by simp))) xL0n xL1n).mono ?_
        rintro e w1 ⟨rfl, b1⟩
        clear hS
        have z1 := Below.size b1
        (try simp only [World.size_alloc, World.size_setCell, size_drew] at z1)
        have B1 : Below w.heap.size w w1 := Below.t b1
        have xk_ : Box w1 (w.heap.size) #[.int .i64 kI0, (.slice kA1 kn1 kc1)] 33 := (Box.b ((Box.new (g := w.heap.size) _ #[.int .i64 kI0, (.slice kA1 kn1 kc1)] 33 (by simp)).alloc _).drew b1)
        have xk := xk_; clear xk_
        have xx_ : Box w1 (w.heap.size + 1) #[(.slice xA0 xn0 xc0), (.slice xA1 xn1 xc1), (.slice xA2 xn2 xc2), (.slice xA3 xn3 xc3), (.slice xA4 xn4 xc4), (.slice xA5 xn5 xc5)] 68 := (Box.b (Box.new (g := w.heap.size + 1) _ #[(.slice xA0 xn0 xc0), (.slice xA1 xn1 xc1), (.slice xA2 xn2 xc2), (.slice xA3 xn3 xc3), (.slice xA4 xn4 xc4), (.slice xA5 xn5 xc5)] 68 (by simp)).drew b1)
        have xx := xx_; clear xx_
        refine ⟨.bool true, by rw [k1], ⟨xk.two.1, xk.two.2.1, xx.six.1, xx.six.2.1, xx.six.2.2.1, xx.six.2.2.2.1, xx.six.2.2.2.2.1, xx.six.2.2.2.2.2.1⟩, fun hS => ?_⟩
        (try simp only [Act.put, layA, layB, layC])
        (refine tk 4 hS ?_; (try simp only [Act.put, layA, layB, layC]))
        (refine tk 5 hS ?_; (try simp only [Act.put, layA, layB, layC]))
        (refine tk 6 hS ?_; (try simp only [Act.put, layA, layB, layC]))
        (refine tk 7 hS ?_; (try simp only [Act.put, layA, layB, layC]))
        refine on 8 ?_
        refine callH (by go_simp; (first | done | with_reducible rfl | exact ⟨rfl, rfl⟩)) ?_
        go_at_call 44
        refine (sAuthOk_L kI0 (RdL.b kH) kL1n (RdL.b (ls := [((.slice xA2 xn2 xc2), .ints xL2), ((.slice xA3 xn3 xc3), .ints xL3)]) (RdL.sub xH (by simp))) xL2n xL3n).mono ?_
        rintro e w2 ⟨rfl, b2⟩
        clear hS
        have z2 := Below.size b2
        (try simp only [World.size_alloc, World.size_setCell, size_drew] at z2)
        have B2 : Below w.heap.size w w2 := Below.t b2
        have xk_ : Box w2 (w.heap.size) #[.int .i64 kI0, (.slice kA1 kn1 kc1)] 33 := (Box.b xk b2)
        clear xk; have xk := xk_; clear xk_
        have xx_ : Box w2 (w.heap.size + 1) #[(.slice xA0 xn0 xc0), (.slice xA1 xn1 xc1), (.slice xA2 xn2 xc2), (.slice xA3 xn3 xc3), (.slice xA4 xn4 xc4), (.slice xA5 xn5 xc5)] 68 := (Box.b xx b2)
        clear xx; have xx := xx_; clear xx_
        refine ⟨.bool true, by rw [k2], ⟨xk.two.1, xk.two.2.1, xx.six.1, xx.six.2.1, xx.six.2.2.1, xx.six.2.2.2.1, xx.six.2.2.2.2.1, xx.six.2.2.2.2.2.1⟩, fun hS => ?_⟩
        (try simp only [Act.put, layA, layB, layC])
        (refine tk 9 hS ?_; (try simp only [Act.put, layA, layB, layC]))
        (refine tk 10 hS ?_; (try simp only [Act.put, layA, layB, layC]))
        (refine tk 11 hS ?_; (try simp only [Act.put, layA, layB, layC]))
        (refine tk 12 hS ?_; (try simp only [Act.put, layA, layB, layC]))
        (refine tk 13 hS ?_; (try simp only [Act.put, layA, layB, layC]))
        refine on 14 ?_
        refine callH (by go_simp; (first | done | with_reducible rfl | exact ⟨rfl, rfl⟩)) ?_
        go_at_call 44
        refine (sAuthOk_L kI0 (RdL.b kH) kL1n (RdL.b (ls := [((.slice xA4 xn4 xc4), .ints xL4), ((.slice xA5 xn5 xc5), .ints xL5)]) (RdL.sub xH (by simp))) xL4n xL5n).mono ?_
        rintro e w3 ⟨rfl, b3⟩
        clear hS
        have z3 := Below.size b3
        (try simp only [World.size_alloc, World.size_setCell, size_drew] at z3)
        have B3 : Below w.heap.size w w3 := Below.t b3
        have xk_ : Box w3 (w.heap.size) #[.int .i64 kI0, (.slice kA1 kn1 kc1)] 33 := (Box.b xk b3)
        clear xk; have xk := xk_; clear xk_
        have xx_ : Box w3 (w.heap.size + 1) #[(.slice xA0 xn0 xc0), (.slice xA1 xn1 xc1), (.slice xA2 xn2 xc2), (.slice xA3 xn3 xc3), (.slice xA4 xn4 xc4), (.slice xA5 xn5 xc5)] 68 := (Box.b xx b3)
        clear xx; have xx := xx_; clear xx_
        refine ⟨.bool true, by rw [k3], ⟨xk.two.1, xk.two.2.1, xx.six.1, xx.six.2.1, xx.six.2.2.1, xx.six.2.2.2.1, xx.six.2.2.2.2.1, xx.six.2.2.2.2.2.1⟩, fun hS => ?_⟩
        (try simp only [Act.put, layA, layB, layC])
        (refine tk 15 hS ?_; (try simp only [Act.put, layA, layB, layC]))
        (refine tk 16 hS ?_; (try simp only [Act.put, layA, layB, layC]))
        (refine tk 17 hS ?_; (try simp only [Act.put, layA, layB, layC]))
        (refine tk 18 hS ?_; (try simp only [Act.put, layA, layB, layC]))
        (refine tk 19 hS ?_; (try simp only [Act.put, layA, layB, layC]))
        (refine tk 21 hS ?_; (try simp only [Act.put, layA, layB, layC]))
        (refine tk 22 hS ?_; (try simp only [Act.put, layA, layB, layC]))
        (refine tk 23 hS ?_; (try simp only [Act.put, layA, layB, layC]))
        (refine tk 24 hS ?_; (try simp only [Act.put, layA, layB, layC]))
        (refine tk 25 hS ?_; (try simp only [Act.put, layA, layB, layC]))
        (refine tk 27 hS ?_; (try simp only [Act.put, layA, layB, layC]))
        (refine tk 28 hS ?_; (try simp only [Act.put, layA, layB, layC]))
        (refine tk 29 hS ?_; (try simp only [Act.put, layA, layB, layC]))
        refine on 20 ?_
        refine callH (by go_simp; (first | done | with_reducible rfl | exact ⟨rfl, rfl⟩)) ?_
        go_at_call 121
        refine (sl24Value_L kI0 (RdL.b kH) kL1n (RdL.b (ls := [((.slice xA4 xn4 xc4), .ints xL4), ((.slice xA5 xn5 xc5), .ints xL5)]) (RdL.sub xH (by simp))) xL4n xL5n).mono ?_
        rintro e w4 ⟨rfl, b4⟩
        clear hS
        have z4 := Below.size b4
        (try simp only [World.size_alloc, World.size_setCell, size_drew] at z4)
        have B4 : Below w.heap.size w w4 := Below.t b4
        have xk_ : Box w4 (w.heap.size) #[.int .i64 kI0, (.slice kA1 kn1 kc1)] 33 := (Box.b xk b4)
        clear xk; have xk := xk_; clear xk_
        have xx_ : Box w4 (w.heap.size + 1) #[(.slice xA0 xn0 xc0), (.slice xA1 xn1 xc1), (.slice xA2 xn2 xc2), (.slice xA3 xn3 xc3), (.slice xA4 xn4 xc4), (.slice xA5 xn5 xc5)] 68 := (Box.b xx b4)
        clear xx; have xx := xx_; clear xx_
        refine ⟨_, rfl, ⟨xk.two.1, xk.two.2.1, xx.six.1, xx.six.2.1, xx.six.2.2.1, xx.six.2.2.2.1, xx.six.2.2.2.2.1, xx.six.2.2.2.2.2.1⟩, fun hS => ?_⟩
        (try simp only [Act.put, layA, layB, layC])
        refine on 26 ?_
        refine callH (by go_simp; (first | done | with_reducible rfl | exact ⟨rfl, rfl⟩)) ?_
        go_at_call 121
        refine (sl24Value_L kI0 (RdL.b kH) kL1n (RdL.b (ls := [((.slice xA0 xn0 xc0), .ints xL0), ((.slice xA1 xn1 xc1), .ints xL1)]) (RdL.sub xH (by simp))) xL0n xL1n).mono ?_
        rintro e w5 ⟨rfl, b5⟩
        clear hS
        have z5 := Below.size b5
        (try simp only [World.size_alloc, World.size_setCell, size_drew] at z5)
        have B5 : Below w.heap.size w w5 := Below.t b5
        have xk_ : Box w5 (w.heap.size) #[.int .i64 kI0, (.slice kA1 kn1 kc1)] 33 := (Box.b xk b5)
        clear xk; have xk := xk_; clear xk_
        have xx_ : Box w5 (w.heap.size + 1) #[(.slice xA0 xn0 xc0), (.slice xA1 xn1 xc1), (.slice xA2 xn2 xc2), (.slice xA3 xn3 xc3), (.slice xA4 xn4 xc4), (.slice xA5 xn5 xc5)] 68 := (Box.b xx b5)
        clear xx; have xx := xx_; clear xx_
        refine ⟨_, rfl, ⟨xk.two.1, xk.two.2.1, xx.six.1, xx.six.2.1, xx.six.2.2.1, xx.six.2.2.2.1, xx.six.2.2.2.2.1, xx.six.2.2.2.2.2.1⟩, fun hS => ?_⟩
        (try simp only [Act.put, layA, layB, layC])
        refine on 30 ?_
        refine callH (by go_simp; (first | done | with_reducible rfl | exact ⟨rfl, rfl⟩)) ?_
        go_at_call 121
        refine (sl24Value_L kI0 (RdL.b kH) kL1n (RdL.b (ls := [((.slice xA2 xn2 xc2), .ints xL2), ((.slice xA3 xn3 xc3), .ints xL3)]) (RdL.sub xH (by simp))) xL2n xL3n).mono ?_
        rintro e w6 ⟨rfl, b6⟩
        clear hS
        have z6 := Below.size b6
        (try simp only [World.size_alloc, World.size_setCell, size_drew] at z6)
        have B6 : Below w.heap.size w w6 := Below.t b6
        have xk_ : Box w6 (w.heap.size) #[.int .i64 kI0, (.slice kA1 kn1 kc1)] 33 := (Box.b xk b6)
        clear xk; have xk := xk_; clear xk_
        have xx_ : Box w6 (w.heap.size + 1) #[(.slice xA0 xn0 xc0), (.slice xA1 xn1 xc1), (.slice xA2 xn2 xc2), (.slice xA3 xn3 xc3), (.slice xA4 xn4 xc4), (.slice xA5 xn5 xc5)] 68 := (Box.b xx b6)
        clear xx; have xx := xx_; clear xx_
        refine ⟨_, rfl, ⟨xk.two.1, xk.two.2.1, xx.six.1, xx.six.2.1, xx.six.2.2.1, xx.six.2.2.2.1, xx.six.2.2.2.2.1, xx.six.2.2.2.2.2.1⟩, fun hS => ?_⟩
        (try simp only [Act.put, layA, layB, layC])
        refine on 31 ?_
        refine callH (by go_simp; (first | done | with_reducible rfl | exact ⟨rfl, rfl⟩)) ?_
        go_at_call 105
        refine (sFMul_any _ _ _ _).mono ?_
        rintro e w_ ⟨rfl, rfl⟩
        refine ⟨_, rfl, hS, fun hS => ?_⟩
        (try simp only [Act.put, layA, layB, layC])
        (refine tk 32 hS ?_; (try simp only [Act.put, layA, layB, layC]))
        (refine tk 33 hS ?_; (try simp only [Act.put, layA, layB, layC]))
        (refine tk 34 hS ?_; (try simp only [Act.put, layA, layB, layC]))
        clear hS
        refine wpAnyH_done (by kernel_rfl) ?_ _
        go_wp2
        go_ret
        exact ⟨ret_bool (by rw [HE.out, k1, k2, k3]; simp), by repeat (with_reducible (first | assumption | exact Below.refl _ _ | refine Below.alloc ?_ (by first | omega | (simp; done) | (simp; omega)) _ | refine Below.setCell ?_ (by first | omega | (simp; done) | (simp; omega)) _ | refine Below.drew ?_ | refine below_drewN ?_ _))⟩
set_option maxRecDepth 100000 in
set_option maxHeartbeats 2000000 in
theorem iTripleOk_L {kA1 : Option Addr} {kn1 kc1 : Nat} {kL1 : List Int} {xA0 : Option Addr} {xn0 xc0 : Nat} {xL0 : List Int} {xA1 : Option Addr} {xn1 xc1 : Nat} {xL1 : List Int} {xA2 : Option Addr} {xn2 xc2 : Nat} {xL2 : List Int} {xA3 : Option Addr} {xn3 xc3 : Nat} {xL3 : List Int} {xA4 : Option Addr} {xn4 xc4 : Nat} {xL4 : List Int} {xA5 : Option Addr} {xn5 xc5 : Nat} {xL5 : List Int} {w : World} (kI0 : Int) (kH : RdL w [((.slice kA1 kn1 kc1), .ints kL1)]) (kL1n : kL1.length ≤ 1048576) (xH : RdL w [((.slice xA0 xn0 xc0), .ints xL0), ((.slice xA1 xn1 xc1), .ints xL1), ((.slice xA2 xn2 xc2), .ints xL2), ((.slice xA3 xn3 xc3), .ints xL3), ((.slice xA4 xn4 xc4), .ints xL4), ((.slice xA5 xn5 xc5), .ints xL5)]) (xL0n : xL0.length ≤ 1048576) (xL1n : xL1.length ≤ 1048576) (xL2n : xL2.length ≤ 1048576) (xL3n : xL3.length ≤ 1048576) (xL4n : xL4.length ≤ 1048576) (xL5n : xL5.length ≤ 1048576) :
    Calls Try.prog 61 #[.agg #[.int .i64 kI0, (.slice kA1 kn1 kc1)], .agg #[(.slice xA0 xn0 xc0), (.slice xA1 xn1 xc1), (.slice xA2 xn2 xc2), (.slice xA3 xn3 xc3), (.slice xA4 xn4 xc4), (.slice xA5 xn5 xc5)]] w fun e w' => e = .returned (.bool (tripleOk kI0 kL1 xL0 xL1 xL2 xL3 xL4 xL5)) ∧ Below w.heap.size w w' := by
  have kL1i : Ints w kA1 kn1 kL1 := Rd.toInts (kH ((.slice kA1 kn1 kc1), .ints kL1) (by simp))
  have kL1l := Lib.hid kL1i.len
  have kL1m : kn1 ≤ 1048576 := by rw [← kL1l.out]; exact kL1n
  have xL0i : Ints w xA0 xn0 xL0 := Rd.toInts (xH ((.slice xA0 xn0 xc0), .ints xL0) (by simp))
  have xL0l := Lib.hid xL0i.len
  have xL0m : xn0 ≤ 1048576 := by rw [← xL0l.out]; exact xL0n
  have xL1i : Ints w xA1 xn1 xL1 := Rd.toInts (xH ((.slice xA1 xn1 xc1), .ints xL1) (by simp))
  have xL1l := Lib.hid xL1i.len
  have xL1m : xn1 ≤ 1048576 := by rw [← xL1l.out]; exact xL1n
  have xL2i : Ints w xA2 xn2 xL2 := Rd.toInts (xH ((.slice xA2 xn2 xc2), .ints xL2) (by simp))
  have xL2l := Lib.hid xL2i.len
  have xL2m : xn2 ≤ 1048576 := by rw [← xL2l.out]; exact xL2n
  have xL3i : Ints w xA3 xn3 xL3 := Rd.toInts (xH ((.slice xA3 xn3 xc3), .ints xL3) (by simp))
  have xL3l := Lib.hid xL3i.len
  have xL3m : xn3 ≤ 1048576 := by rw [← xL3l.out]; exact xL3n
  have xL4i : Ints w xA4 xn4 xL4 := Rd.toInts (xH ((.slice xA4 xn4 xc4), .ints xL4) (by simp))
  have xL4l := Lib.hid xL4i.len
  have xL4m : xn4 ≤ 1048576 := by rw [← xL4l.out]; exact xL4n
  have xL5i : Ints w xA5 xn5 xL5 := Rd.toInts (xH ((.slice xA5 xn5 xc5), .ints xL5) (by simp))
  have xL5l := Lib.hid xL5i.len
  have xL5m : xn5 ≤ 1048576 := by rw [← xL5l.out]; exact xL5n
  have HE : Hid (tripleOk kI0 kL1 xL0 xL1 xL2 xL3 xL4 xL5 = (authOk kI0 kL1 xL0 xL1 && authOk kI0 kL1 xL2 xL3 && authOk kI0 kL1 xL4 xL5 && (fsum kI0 xL4 == fmul kI0 (fsum kI0 xL0) (fsum kI0 xL2)))) := rfl
  cases k1 : authOk kI0 kL1 xL0 xL1 with
  | false =>
    go_enter Try.func61, Try.ntmps61
    go_wp2_with fail
    refine wp_region_held_drew (S := fun W => W.cell? ⟨w.heap.size, 0, none⟩ = some (.int .i64 kI0) ∧ W.cell? ⟨w.heap.size, 1, none⟩ = some ((.slice kA1 kn1 kc1)) ∧ W.cell? ⟨w.heap.size + 1, 0, none⟩ = some ((.slice xA0 xn0 xc0)) ∧ W.cell? ⟨w.heap.size + 1, 1, none⟩ = some ((.slice xA1 xn1 xc1)) ∧ W.cell? ⟨w.heap.size + 1, 2, none⟩ = some ((.slice xA2 xn2 xc2)) ∧ W.cell? ⟨w.heap.size + 1, 3, none⟩ = some ((.slice xA3 xn3 xc3)) ∧ W.cell? ⟨w.heap.size + 1, 4, none⟩ = some ((.slice xA4 xn4 xc4)) ∧ W.cell? ⟨w.heap.size + 1, 5, none⟩ = some ((.slice xA5 xn5 xc5))) (by kernel_rfl) ⟨((Box.new (g := w.heap.size) _ #[.int .i64 kI0, (.slice kA1 kn1 kc1)] 33 (by simp)).alloc _).drew.two.1, ((Box.new (g := w.heap.size) _ #[.int .i64 kI0, (.slice kA1 kn1 kc1)] 33 (by simp)).alloc _).drew.two.2.1, (Box.new (g := w.heap.size + 1) _ #[(.slice xA0 xn0 xc0), (.slice xA1 xn1 xc1), (.slice xA2 xn2 xc2), (.slice xA3 xn3 xc3), (.slice xA4 xn4 xc4), (.slice xA5 xn5 xc5)] 68 (by simp)).drew.six.1, (Box.new (g := w.heap.size + 1) _ #[(.slice xA0 xn0 xc0), (.slice xA1 xn1 xc1), (.slice xA2 xn2 xc2), (.slice xA3 xn3 xc3), (.slice xA4 xn4 xc4), (.slice xA5 xn5 xc5)] 68 (by simp)).drew.six.2.1, (Box.new (g := w.heap.size + 1) _ #[(.slice xA0 xn0 xc0), (.slice xA1 xn1 xc1), (.slice xA2 xn2 xc2), (.slice xA3 xn3 xc3), (.slice xA4 xn4 xc4), (.slice xA5 xn5 xc5)] 68 (by simp)).drew.six.2.2.1, (Box.new (g := w.heap.size + 1) _ #[(.slice xA0 xn0 xc0), (.slice xA1 xn1 xc1), (.slice xA2 xn2 xc2), (.slice xA3 xn3 xc3), (.slice xA4 xn4 xc4), (.slice xA5 xn5 xc5)] 68 (by simp)).drew.six.2.2.2.1, (Box.new (g := w.heap.size + 1) _ #[(.slice xA0 xn0 xc0), (.slice xA1 xn1 xc1), (.slice xA2 xn2 xc2), (.slice xA3 xn3 xc3), (.slice xA4 xn4 xc4), (.slice xA5 xn5 xc5)] 68 (by simp)).drew.six.2.2.2.2.1, (Box.new (g := w.heap.size + 1) _ #[(.slice xA0 xn0 xc0), (.slice xA1 xn1 xc1), (.slice xA2 xn2 xc2), (.slice xA3 xn3 xc3), (.slice xA4 xn4 xc4), (.slice xA5 xn5 xc5)] 68 (by simp)).drew.six.2.2.2.2.2.1⟩ (fun hS => ?_)
    (refine tk 0 hS ?_; (try simp only [Act.put, layA, layB, layC]))
    (refine tk 1 hS ?_; (try simp only [Act.put, layA, layB, layC]))
    (refine tk 2 hS ?_; (try simp only [Act.put, layA, layB, layC]))
    refine on 3 ?_
    refine callH (by go_simp; (first | done | with_reducible rfl | exact ⟨rfl, rfl⟩)) ?_
    go_at_call 45
    refine (iAuthOk_L kI0 (RdL.b kH) kL1n (RdL.b (ls := [((.slice xA0 xn0 xc0), .ints xL0), ((.slice xA1 xn1 xc1), .ints xL1)]) (RdL.sub xH (by simp))) xL0n xL1n).mono ?_
    rintro e w1 ⟨rfl, b1⟩
    clear hS
    have z1 := Below.size b1
    (try simp only [World.size_alloc, World.size_setCell, size_drew] at z1)
    have B1 : Below w.heap.size w w1 := Below.t b1
    have xk_ : Box w1 (w.heap.size) #[.int .i64 kI0, (.slice kA1 kn1 kc1)] 33 := (Box.b ((Box.new (g := w.heap.size) _ #[.int .i64 kI0, (.slice kA1 kn1 kc1)] 33 (by simp)).alloc _).drew b1)
    have xk := xk_; clear xk_
    have xx_ : Box w1 (w.heap.size + 1) #[(.slice xA0 xn0 xc0), (.slice xA1 xn1 xc1), (.slice xA2 xn2 xc2), (.slice xA3 xn3 xc3), (.slice xA4 xn4 xc4), (.slice xA5 xn5 xc5)] 68 := (Box.b (Box.new (g := w.heap.size + 1) _ #[(.slice xA0 xn0 xc0), (.slice xA1 xn1 xc1), (.slice xA2 xn2 xc2), (.slice xA3 xn3 xc3), (.slice xA4 xn4 xc4), (.slice xA5 xn5 xc5)] 68 (by simp)).drew b1)
    have xx := xx_; clear xx_
    refine ⟨.bool false, by rw [k1], ⟨xk.two.1, xk.two.2.1, xx.six.1, xx.six.2.1, xx.six.2.2.1, xx.six.2.2.2.1, xx.six.2.2.2.2.1, xx.six.2.2.2.2.2.1⟩, fun hS => ?_⟩
    (try simp only [Act.put, layA, layB, layC])
    (refine tk 4 hS ?_; (try simp only [Act.put, layA, layB, layC]))
    (refine ps 5 hS ?_; (try simp only [Act.put, layA, layB, layC]))
    (refine ps 6 hS ?_; (try simp only [Act.put, layA, layB, layC]))
    (refine ps 7 hS ?_; (try simp only [Act.put, layA, layB, layC]))
    (refine ps 8 hS ?_; (try simp only [Act.put, layA, layB, layC]))
    (refine tk 9 hS ?_; (try simp only [Act.put, layA, layB, layC]))
    (refine tk 10 hS ?_; (try simp only [Act.put, layA, layB, layC]))
    (refine ps 11 hS ?_; (try simp only [Act.put, layA, layB, layC]))
    (refine ps 12 hS ?_; (try simp only [Act.put, layA, layB, layC]))
    (refine ps 13 hS ?_; (try simp only [Act.put, layA, layB, layC]))
    (refine ps 14 hS ?_; (try simp only [Act.put, layA, layB, layC]))
    (refine tk 15 hS ?_; (try simp only [Act.put, layA, layB, layC]))
    (refine tk 16 hS ?_; (try simp only [Act.put, layA, layB, layC]))
    (refine ps 17 hS ?_; (try simp only [Act.put, layA, layB, layC]))
    (refine ps 18 hS ?_; (try simp only [Act.put, layA, layB, layC]))
    (refine ps 19 hS ?_; (try simp only [Act.put, layA, layB, layC]))
    (refine ps 20 hS ?_; (try simp only [Act.put, layA, layB, layC]))
    (refine ps 21 hS ?_; (try simp only [Act.put, layA, layB, layC]))
    (refine ps 22 hS ?_; (try simp only [Act.put, layA, layB, layC]))
    (refine ps 23 hS ?_; (try simp only [Act.put, layA, layB, layC]))
    (refine ps 24 hS ?_; (try simp only [Act.put, layA, layB, layC]))
    (refine ps 25 hS ?_; (try simp only [Act.put, layA, layB, layC]))
    (refine ps 26 hS ?_; (try simp only [Act.put, layA, layB, layC]))
    (refine ps 27 hS ?_; (try simp only [Act.put, layA, layB, layC]))
    (refine ps 28 hS ?_; (try simp only [Act.put, layA, layB, layC]))
    (refine ps 29 hS ?_; (try simp only [Act.put, layA, layB, layC]))
    (refine ps 30 hS ?_; (try simp only [Act.put, layA, layB, layC]))
    (refine ps 31 hS ?_; (try simp only [Act.put, layA, layB, layC]))
    (refine ps 32 hS ?_; (try simp only [Act.put, layA, layB, layC]))
    (refine tk 33 hS ?_; (try simp only [Act.put, layA, layB, layC]))
    (refine tk 34 hS ?_; (try simp only [Act.put, layA, layB, layC]))
    clear hS
    refine wpAnyH_done (by kernel_rfl) ?_ _
    go_wp2
    go_ret
    exact ⟨ret_bool (by rw [HE.out, k1]; simp), by repeat (with_reducible (first | assumption | exact Below.refl _ _ | refine Below.alloc ?_ (by first | omega | (simp; done) | (simp; omega)) _ | refine Below.setCell ?_ (by first | omega | (simp; done) | (simp; omega)) _ | refine Below.drew ?_ | refine below_drewN ?_ _))⟩
  | true =>
    cases k2 : authOk kI0 kL1 xL2 xL3 with
    | false =>
      go_enter Try.func61, Try.ntmps61
      go_wp2_with fail
      refine wp_region_held_drew (S := fun W => W.cell? ⟨w.heap.size, 0, none⟩ = some (.int .i64 kI0) ∧ W.cell? ⟨w.heap.size, 1, none⟩ = some ((.slice kA1 kn1 kc1)) ∧ W.cell? ⟨w.heap.size + 1, 0, none⟩ = some ((.slice xA0 xn0 xc0)) ∧ W.cell? ⟨w.heap.size + 1, 1, none⟩ = some ((.slice xA1 xn1 xc1)) ∧ W.cell? ⟨w.heap.size + 1, 2, none⟩ = some ((.slice xA2 xn2 xc2)) ∧ W.cell? ⟨w.heap.size + 1, 3, none⟩ = some ((.slice xA3 xn3 xc3)) ∧ W.cell? ⟨w.heap.size + 1, 4, none⟩ = some ((.slice xA4 xn4 xc4)) ∧ W.cell? ⟨w.heap.size + 1, 5, none⟩ = some ((.slice xA5 xn5 xc5))) (by kernel_rfl) ⟨((Box.new (g := w.heap.size) _ #[.int .i64 kI0, (.slice kA1 kn1 kc1)] 33 (by simp)).alloc _).drew.two.1, ((Box.new (g := w.heap.size) _ #[.int .i64 kI0, (.slice kA1 kn1 kc1)] 33 (by simp)).alloc _).drew.two.2.1, (Box.new (g := w.heap.size + 1) _ #[(.slice xA0 xn0 xc0), (.slice xA1 xn1 xc1), (.slice xA2 xn2 xc2), (.slice xA3 xn3 xc3), (.slice xA4 xn4 xc4), (.slice xA5 xn5 xc5)] 68 (by simp)).drew.six.1, (Box.new (g := w.heap.size + 1) _ #[(.slice xA0 xn0 xc0), (.slice xA1 xn1 xc1), (.slice xA2 xn2 xc2), (.slice xA3 xn3 xc3), (.slice xA4 xn4 xc4), (.slice xA5 xn5 xc5)] 68 (by simp)).drew.six.2.1, (Box.new (g := w.heap.size + 1) _ #[(.slice xA0 xn0 xc0), (.slice xA1 xn1 xc1), (.slice xA2 xn2 xc2), (.slice xA3 xn3 xc3), (.slice xA4 xn4 xc4), (.slice xA5 xn5 xc5)] 68 (by simp)).drew.six.2.2.1, (Box.new (g := w.heap.size + 1) _ #[(.slice xA0 xn0 xc0), (.slice xA1 xn1 xc1), (.slice xA2 xn2 xc2), (.slice xA3 xn3 xc3), (.slice xA4 xn4 xc4), (.slice xA5 xn5 xc5)] 68 (by simp)).drew.six.2.2.2.1, (Box.new (g := w.heap.size + 1) _ #[(.slice xA0 xn0 xc0), (.slice xA1 xn1 xc1), (.slice xA2 xn2 xc2), (.slice xA3 xn3 xc3), (.slice xA4 xn4 xc4), (.slice xA5 xn5 xc5)] 68 (by simp)).drew.six.2.2.2.2.1, (Box.new (g := w.heap.size + 1) _ #[(.slice xA0 xn0 xc0), (.slice xA1 xn1 xc1), (.slice xA2 xn2 xc2), (.slice xA3 xn3 xc3), (.slice xA4 xn4 xc4), (.slice xA5 xn5 xc5)] 68 (by simp)).drew.six.2.2.2.2.2.1⟩ (fun hS => ?_)
      (refine tk 0 hS ?_; (try simp only [Act.put, layA, layB, layC]))
      (refine tk 1 hS ?_; (try simp only [Act.put, layA, layB, layC]))
      (refine tk 2 hS ?_; (try simp only [Act.put, layA, layB, layC]))
      refine on 3 ?_
      refine callH (by go_simp; (first | done | with_reducible rfl | exact ⟨rfl, rfl⟩)) ?_
      go_at_call 45
      refine (iAuthOk_L kI0 (RdL.b kH) kL1n (RdL.b (ls := [((.slice xA0 xn0 xc0), .ints xL0), ((.slice xA1 xn1 xc1), .ints xL1)]) (RdL.sub xH (by simp))) xL0n xL1n).mono ?_
      rintro e w1 ⟨rfl, b1⟩
      clear hS
      have z1 := Below.size b1
      (try simp only [World.size_alloc, World.size_setCell, size_drew] at z1)
      have B1 : Below w.heap.size w w1 := Below.t b1
      have xk_ : Box w1 (w.heap.size) #[.int .i64 kI0, (.slice kA1 kn1 kc1)] 33 := (Box.b ((Box.new (g := w.heap.size) _ #[.int .i64 kI0, (.slice kA1 kn1 kc1)] 33 (by simp)).alloc _).drew b1)
      have xk := xk_; clear xk_
      have xx_ : Box w1 (w.heap.size + 1) #[(.slice xA0 xn0 xc0), (.slice xA1 xn1 xc1), (.slice xA2 xn2 xc2), (.slice xA3 xn3 xc3), (.slice xA4 xn4 xc4), (.slice xA5 xn5 xc5)] 68 := (Box.b (Box.new (g := w.heap.size + 1) _ #[(.slice xA0 xn0 xc0), (.slice xA1 xn1 xc1), (.slice xA2 xn2 xc2), (.slice xA3 xn3 xc3), (.slice xA4 xn4 xc4), (.slice xA5 xn5 xc5)] 68 (by simp)).drew b1)
      have xx := xx_; clear xx_
      refine ⟨.bool true, by rw [k1], ⟨xk.two.1, xk.two.2.1, xx.six.1, xx.six.2.1, xx.six.2.2.1, xx.six.2.2.2.1, xx.six.2.2.2.2.1, xx.six.2.2.2.2.2.1⟩, fun hS => ?_⟩
      (try simp only [Act.put, layA, layB, layC])
      (refine tk 4 hS ?_; (try simp only [Act.put, layA, layB, layC]))
      (refine tk 5 hS ?_; (try simp only [Act.put, layA, layB, layC]))
      (refine tk 6 hS ?_; (try simp only [Act.put, layA, layB, layC]))
      (refine tk 7 hS ?_; (try simp only [Act.put, layA, layB, layC]))
      refine on 8 ?_
      refine callH (by go_simp; (first | done | with_reducible rfl | exact ⟨rfl, rfl⟩)) ?_
      go_at_call 45
      refine (iAuthOk_L kI0 (RdL.b kH) kL1n (RdL.b (ls := [((.slice xA2 xn2 xc2), .ints xL2), ((.slice xA3 xn3 xc3), .ints xL3)]) (RdL.sub xH (by simp))) xL2n xL3n).mono ?_
      rintro e w2 ⟨rfl, b2⟩
      clear hS
      have z2 := Below.size b2
      (try simp only [World.size_alloc, World.size_setCell, size_drew] at z2)
      have B2 : Below w.heap.size w w2 := Below.t b2
      have xk_ : Box w2 (w.heap.size) #[.int .i64 kI0, (.slice kA1 kn1 kc1)] 33 := (Box.b xk b2)
      clear xk; have xk := xk_; clear xk_
      have xx_ : Box w2 (w.heap.size + 1) #[(.slice xA0 xn0 xc0), (.slice xA1 xn1 xc1), (.slice xA2 xn2 xc2), (.slice xA3 xn3 xc3), (.slice xA4 xn4 xc4), (.slice xA5 xn5 xc5)] 68 := (Box.b xx b2)
      clear xx; have xx := xx_; clear xx_
      refine ⟨.bool false, by rw [k2], ⟨xk.two.1, xk.two.2.1, xx.six.1, xx.six.2.1, xx.six.2.2.1, xx.six.2.2.2.1, xx.six.2.2.2.2.1, xx.six.2.2.2.2.2.1⟩, fun hS => ?_⟩
      (try simp only [Act.put, layA, layB, layC])
      (refine tk 9 hS ?_; (try simp only [Act.put, layA, layB, layC]))
      (refine tk 10 hS ?_; (try simp only [Act.put, layA, layB, layC]))
      (refine ps 11 hS ?_; (try simp only [Act.put, layA, layB, layC]))
      (refine ps 12 hS ?_; (try simp only [Act.put, layA, layB, layC]))
      (refine ps 13 hS ?_; (try simp only [Act.put, layA, layB, layC]))
      (refine ps 14 hS ?_; (try simp only [Act.put, layA, layB, layC]))
      (refine tk 15 hS ?_; (try simp only [Act.put, layA, layB, layC]))
      (refine tk 16 hS ?_; (try simp only [Act.put, layA, layB, layC]))
      (refine ps 17 hS ?_; (try simp only [Act.put, layA, layB, layC]))
      (refine ps 18 hS ?_; (try simp only [Act.put, layA, layB, layC]))
      (refine ps 19 hS ?_; (try simp only [Act.put, layA, layB, layC]))
      (refine ps 20 hS ?_; (try simp only [Act.put, layA, layB, layC]))
      (refine ps 21 hS ?_; (try simp only [Act.put, layA, layB, layC]))
      (refine ps 22 hS ?_; (try simp only [Act.put, layA, layB, layC]))
      (refine ps 23 hS ?_; (try simp only [Act.put, layA, layB, layC]))
      (refine ps 24 hS ?_; (try simp only [Act.put, layA, layB, layC]))
      (refine ps 25 hS ?_; (try simp only [Act.put, layA, layB, layC]))
      (refine ps 26 hS ?_; (try simp only [Act.put, layA, layB, layC]))
      (refine ps 27 hS ?_; (try simp only [Act.put, layA, layB, layC]))
      (refine ps 28 hS ?_; (try simp only [Act.put, layA, layB, layC]))
      (refine ps 29 hS ?_; (try simp only [Act.put, layA, layB, layC]))
      (refine ps 30 hS ?_; (try simp only [Act.put, layA, layB, layC]))
      (refine ps 31 hS ?_; (try simp only [Act.put, layA, layB, layC]))
      (refine ps 32 hS ?_; (try simp only [Act.put, layA, layB, layC]))
      (refine tk 33 hS ?_; (try simp only [Act.put, layA, layB, layC]))
      (refine tk 34 hS ?_; (try simp only [Act.put, layA, layB, layC]))
      clear hS
      refine wpAnyH_done (by kernel_rfl) ?_ _
      go_wp2
      go_ret
      exact ⟨ret_bool (by rw [HE.out, k1, k2]; simp), by repeat (with_reducible (first | assumption | exact Below.refl _ _ | refine Below.alloc ?_ (by first | omega | (simp; done) | (simp; omega)) _ | refine Below.setCell ?_ (by first | omega | (simp; done) | (simp; omega)) _ | refine Below.drew ?_ | refine below_drewN ?_ _))⟩
    | true =>
      cases k3 : authOk kI0 kL1 xL4 xL5 with
      | false =>
        go_enter Try.func61, Try.ntmps61
        go_wp2_with fail
        refine wp_region_held_drew (S := fun W => W.cell? ⟨w.heap.size, 0, none⟩ = some (.int .i64 kI0) ∧ W.cell? ⟨w.heap.size, 1, none⟩ = some ((.slice kA1 kn1 kc1)) ∧ W.cell? ⟨w.heap.size + 1, 0, none⟩ = some ((.slice xA0 xn0 xc0)) ∧ W.cell? ⟨w.heap.size + 1, 1, none⟩ = some ((.slice xA1 xn1 xc1)) ∧ W.cell? ⟨w.heap.size + 1, 2, none⟩ = some ((.slice xA2 xn2 xc2)) ∧ W.cell? ⟨w.heap.size + 1, 3, none⟩ = some ((.slice xA3 xn3 xc3)) ∧ W.cell? ⟨w.heap.size + 1, 4, none⟩ = some ((.slice xA4 xn4 xc4)) ∧ W.cell? ⟨w.heap.size + 1, 5, none⟩ = some ((.slice xA5 xn5 xc5))) (by kernel_rfl) ⟨((Box.new (g := w.heap.size) _ #[.int .i64 kI0, (.slice kA1 kn1 kc1)] 33 (by simp)).alloc _).drew.two.1, ((Box.new (g := w.heap.size) _ #[.int .i64 kI0, (.slice kA1 kn1 kc1)] 33 (by simp)).alloc _).drew.two.2.1, (Box.new (g := w.heap.size + 1) _ #[(.slice xA0 xn0 xc0), (.slice xA1 xn1 xc1), (.slice xA2 xn2 xc2), (.slice xA3 xn3 xc3), (.slice xA4 xn4 xc4), (.slice xA5 xn5 xc5)] 68 (by simp)).drew.six.1, (Box.new (g := w.heap.size + 1) _ #[(.slice xA0 xn0 xc0), (.slice xA1 xn1 xc1), (.slice xA2 xn2 xc2), (.slice xA3 xn3 xc3), (.slice xA4 xn4 xc4), (.slice xA5 xn5 xc5)] 68 (by simp)).drew.six.2.1, (Box.new (g := w.heap.size + 1) _ #[(.slice xA0 xn0 xc0), (.slice xA1 xn1 xc1), (.slice xA2 xn2 xc2), (.slice xA3 xn3 xc3), (.slice xA4 xn4 xc4), (.slice xA5 xn5 xc5)] 68 (by simp)).drew.six.2.2.1, (Box.new (g := w.heap.size + 1) _ #[(.slice xA0 xn0 xc0), (.slice xA1 xn1 xc1), (.slice xA2 xn2 xc2), (.slice xA3 xn3 xc3), (.slice xA4 xn4 xc4), (.slice xA5 xn5 xc5)] 68 (by simp)).drew.six.2.2.2.1, (Box.new (g := w.heap.size + 1) _ #[(.slice xA0 xn0 xc0), (.slice xA1 xn1 xc1), (.slice xA2 xn2 xc2), (.slice xA3 xn3 xc3), (.slice xA4 xn4 xc4), (.slice xA5 xn5 xc5)] 68 (by simp)).drew.six.2.2.2.2.1, (Box.new (g := w.heap.size + 1) _ #[(.slice xA0 xn0 xc0), (.slice xA1 xn1 xc1), (.slice xA2 xn2 xc2), (.slice xA3 xn3 xc3), (.slice xA4 xn4 xc4), (.slice xA5 xn5 xc5)] 68 (by simp)).drew.six.2.2.2.2.2.1⟩ (fun hS => ?_)
        (refine tk 0 hS ?_; (try simp only [Act.put, layA, layB, layC]))
        (refine tk 1 hS ?_; (try simp only [Act.put, layA, layB, layC]))
        (refine tk 2 hS ?_; (try simp only [Act.put, layA, layB, layC]))
        refine on 3 ?_
        refine callH (by go_simp; (first | done | with_reducible rfl | exact ⟨rfl, rfl⟩)) ?_
        go_at_call 45
        refine (iAuthOk_L kI0 (RdL.b kH) kL1n (RdL.b (ls := [((.slice xA0 xn0 xc0), .ints xL0), ((.slice xA1 xn1 xc1), .ints xL1)]) (RdL.sub xH (by simp))) xL0n xL1n).mono ?_
        rintro e w1 ⟨rfl, b1⟩
        clear hS
        have z1 := Below.size b1
        (try simp only [World.size_alloc, World.size_setCell, size_drew] at z1)
        have B1 : Below w.heap.size w w1 := Below.t b1
        have xk_ : Box w1 (w.heap.size) #[.int .i64 kI0, (.slice kA1 kn1 kc1)] 33 := (Box.b ((Box.new (g := w.heap.size) _ #[.int .i64 kI0, (.slice kA1 kn1 kc1)] 33 (by simp)).alloc _).drew b1)
        have xk := xk_; clear xk_
        have xx_ : Box w1 (w.heap.size + 1) #[(.slice xA0 xn0 xc0), (.slice xA1 xn1 xc1), (.slice xA2 xn2 xc2), (.slice xA3 xn3 xc3), (.slice xA4 xn4 xc4), (.slice xA5 xn5 xc5)] 68 := (Box.b (Box.new (g := w.heap.size + 1) _ #[(.slice xA0 xn0 xc0), (.slice xA1 xn1 xc1), (.slice xA2 xn2 xc2), (.slice xA3 xn3 xc3), (.slice xA4 xn4 xc4), (.slice xA5 xn5 xc5)] 68 (by simp)).drew b1)
        have xx := xx_; clear xx_
        refine ⟨.bool true, by rw [k1], ⟨xk.two.1, xk.two.2.1, xx.six.1, xx.six.2.1, xx.six.2.2.1, xx.six.2.2.2.1, xx.six.2.2.2.2.1, xx.six.2.2.2.2.2.1⟩, fun hS => ?_⟩
        (try simp only [Act.put, layA, layB, layC])
        (refine tk 4 hS ?_; (try simp only [Act.put, layA, layB, layC]))
        (refine tk 5 hS ?_; (try simp only [Act.put, layA, layB, layC]))
        (refine tk 6 hS ?_; (try simp only [Act.put, layA, layB, layC]))
        (refine tk 7 hS ?_; (try simp only [Act.put, layA, layB, layC]))
        refine on 8 ?_
        refine callH (by go_simp; (first | done | with_reducible rfl | exact ⟨rfl, rfl⟩)) ?_
        go_at_call 45
        refine (iAuthOk_L kI0 (RdL.b kH) kL1n (RdL.b (ls := [((.slice xA2 xn2 xc2), .ints xL2), ((.slice xA3 xn3 xc3), .ints xL3)]) (RdL.sub xH (by simp))) xL2n xL3n).mono ?_
        rintro e w2 ⟨rfl, b2⟩
        clear hS
        have z2 := Below.size b2
        (try simp only [World.size_alloc, World.size_setCell, size_drew] at z2)
        have B2 : Below w.heap.size w w2 := Below.t b2
        have xk_ : Box w2 (w.heap.size) #[.int .i64 kI0, (.slice kA1 kn1 kc1)] 33 := (Box.b xk b2)
        clear xk; have xk := xk_; clear xk_
        have xx_ : Box w2 (w.heap.size + 1) #[(.slice xA0 xn0 xc0), (.slice xA1 xn1 xc1), (.slice xA2 xn2 xc2), (.slice xA3 xn3 xc3), (.slice xA4 xn4 xc4), (.slice xA5 xn5 xc5)] 68 := (Box.b xx b2)
        clear xx; have xx := xx_; clear xx_
        refine ⟨.bool true, by rw [k2], ⟨xk.two.1, xk.two.2.1, xx.six.1, xx.six.2.1, xx.six.2.2.1, xx.six.2.2.2.1, xx.six.2.2.2.2.1, xx.six.2.2.2.2.2.1⟩, fun hS => ?_⟩
        (try simp only [Act.put, layA, layB, layC])
        (refine tk 9 hS ?_; (try simp only [Act.put, layA, layB, layC]))
        (refine tk 10 hS ?_; (try simp only [Act.put, layA, layB, layC]))
        (refine tk 11 hS ?_; (try simp only [Act.put, layA, layB, layC]))
        (refine tk 12 hS ?_; (try simp only [Act.put, layA, layB, layC]))
        (refine tk 13 hS ?_; (try simp only [Act.put, layA, layB, layC]))
        refine on 14 ?_
        refine callH (by go_simp; (first | done | with_reducible rfl | exact ⟨rfl, rfl⟩)) ?_
        go_at_call 45
        refine (iAuthOk_L kI0 (RdL.b kH) kL1n (RdL.b (ls := [((.slice xA4 xn4 xc4), .ints xL4), ((.slice xA5 xn5 xc5), .ints xL5)]) (RdL.sub xH (by simp))) xL4n xL5n).mono ?_
        rintro e w3 ⟨rfl, b3⟩
        clear hS
        have z3 := Below.size b3
        (try simp only [World.size_alloc, World.size_setCell, size_drew] at z3)
        have B3 : Below w.heap.size w w3 := Below.t b3
        have xk_ : Box w3 (w.heap.size) #[.int .i64 kI0, (.slice kA1 kn1 kc1)] 33 := (Box.b xk b3)
        clear xk; have xk := xk_; clear xk_
        have xx_ : Box w3 (w.heap.size + 1) #[(.slice xA0 xn0 xc0), (.slice xA1 xn1 xc1), (.slice xA2 xn2 xc2), (.slice xA3 xn3 xc3), (.slice xA4 xn4 xc4), (.slice xA5 xn5 xc5)] 68 := (Box.b xx b3)
        clear xx; have xx := xx_; clear xx_
        refine ⟨.bool false, by rw [k3], ⟨xk.two.1, xk.two.2.1, xx.six.1, xx.six.2.1, xx.six.2.2.1, xx.six.2.2.2.1, xx.six.2.2.2.2.1, xx.six.2.2.2.2.2.1⟩, fun hS => ?_⟩
        (try simp only [Act.put, layA, layB, layC])
        (refine tk 15 hS ?_; (try simp only [Act.put, layA, layB, layC]))
        (refine tk 16 hS ?_; (try simp only [Act.put, layA, layB, layC]))
        (refine ps 17 hS ?_; (try simp only [Act.put, layA, layB, layC]))
        (refine ps 18 hS ?_; (try simp only [Act.put, layA, layB, layC]))
        (refine ps 19 hS ?_; (try simp only [Act.put, layA, layB, layC]))
        (refine ps 20 hS ?_; (try simp only [Act.put, layA, layB, layC]))
        (refine ps 21 hS ?_; (try simp only [Act.put, layA, layB, layC]))
        (refine ps 22 hS ?_; (try simp only [Act.put, layA, layB, layC]))
        (refine ps 23 hS ?_; (try simp only [Act.put, layA, layB, layC]))
        (refine ps 24 hS ?_; (try simp only [Act.put, layA, layB, layC]))
        (refine ps 25 hS ?_; (try simp only [Act.put, layA, layB, layC]))
        (refine ps 26 hS ?_; (try simp only [Act.put, layA, layB, layC]))
        (refine ps 27 hS ?_; (try simp only [Act.put, layA, layB, layC]))
        (refine ps 28 hS ?_; (try simp only [Act.put, layA, layB, layC]))
        (refine ps 29 hS ?_; (try simp only [Act.put, layA, layB, layC]))
        (refine ps 30 hS ?_; (try simp only [Act.put, layA, layB, layC]))
        (refine ps 31 hS ?_; (try simp only [Act.put, layA, layB, layC]))
        (refine ps 32 hS ?_; (try simp only [Act.put, layA, layB, layC]))
        (refine tk 33 hS ?_; (try simp only [Act.put, layA, layB, layC]))
        (refine tk 34 hS ?_; (try simp only [Act.put, layA, layB, layC]))
        clear hS
        refine wpAnyH_done (by kernel_rfl) ?_ _
        go_wp2
        go_ret
        exact ⟨ret_bool (by rw [HE.out, k1, k2, k3]; simp), by repeat (with_reducible (first | assumption | exact Below.refl _ _ | refine Below.alloc ?_ (by first | omega | (simp; done) | (simp; omega)) _ | refine Below.setCell ?_ (by first | omega | (simp; done) | (simp; omega)) _ | refine Below.drew ?_ | refine below_drewN ?_ _))⟩
      | true =>
        go_enter Try.func61, Try.ntmps61
        go_wp2_with fail
        refine wp_region_held_drew (S := fun W => W.cell? ⟨w.heap.size, 0, none⟩ = some (.int .i64 kI0) ∧ W.cell? ⟨w.heap.size, 1, none⟩ = some ((.slice kA1 kn1 kc1)) ∧ W.cell? ⟨w.heap.size + 1, 0, none⟩ = some ((.slice xA0 xn0 xc0)) ∧ W.cell? ⟨w.heap.size + 1, 1, none⟩ = some ((.slice xA1 xn1 xc1)) ∧ W.cell? ⟨w.heap.size + 1, 2, none⟩ = some ((.slice xA2 xn2 xc2)) ∧ W.cell? ⟨w.heap.size + 1, 3, none⟩ = some ((.slice xA3 xn3 xc3)) ∧ W.cell? ⟨w.heap.size + 1, 4, none⟩ = some ((.slice xA4 xn4 xc4)) ∧ W.cell? ⟨w.heap.size + 1, 5, none⟩ = some ((.slice xA5 xn5 xc5))) (by kernel_rfl) ⟨((Box.new (g := w.heap.size) _ #[.int .i64 kI0, (.slice kA1 kn1 kc1)] 33 (by simp)).alloc _).drew.two.1, ((Box.new (g := w.heap.size) _ #[.int .i64 kI0, (.slice kA1 kn1 kc1)] 33 (by simp)).alloc _).drew.two.2.1, (Box.new (g := w.heap.size + 1) _ #[(.slice xA0 xn0 xc0), (.slice xA1 xn1 xc1), (.slice xA2 xn2 xc2), (.slice xA3 xn3 xc3), (.slice xA4 xn4 xc4), (.slice xA5 xn5 xc5)] 68 (by simp)).drew.six.1, (Box.new (g := w.heap.size + 1) _ #[(.slice xA0 xn0 xc0), (.slice xA1 xn1 xc1), (.slice xA2 xn2 xc2), (.slice xA3 xn3 xc3), (.slice xA4 xn4 xc4), (.slice xA5 xn5 xc5)] 68 (by simp)).drew.six.2.1, (Box.new (g := w.heap.size + 1) _ #[(.slice xA0 xn0 xc0), (.slice xA1 xn1 xc1), (.slice xA2 xn2 xc2), (.slice xA3 xn3 xc3), (.slice xA4 xn4 xc4), (.slice xA5 xn5 xc5)] 68 (by simp)).drew.six.2.2.1, (Box.new (g := w.heap.size + 1) _ #[(.slice xA0 xn0 xc0), (.slice xA1 xn1 xc1), (.slice xA2 xn2 xc2), (.slice xA3 xn3 xc3), (.slice xA4 xn4 xc4), (.slice xA5 xn5 xc5)] 68 (by simp)).drew.six.2.2.2.1, (Box.new (g := w.heap.size + 1) _ #[(.slice xA0 xn0 xc0), (.slice xA1 xn1 xc1), (.slice xA2 xn2 xc2), (.slice xA3 xn3 xc3), (.slice xA4 xn4 xc4), (.slice xA5 xn5 xc5)] 68 (by simp)).drew.six.2.2.2.2.1, (Box.new (g := w.heap.size + 1) _ #[(.slice xA0 xn0 xc0), (.slice xA1 xn1 xc1), (.slice xA2 xn2 xc2), (.slice xA3 xn3 xc3), (.slice xA4 xn4 xc4), (.slice xA5 xn5 xc5)] 68 (by simp)).drew.six.2.2.2.2.2.1⟩ (fun hS => ?_)
        (refine tk 0 hS ?_; (try simp only [Act.put, layA, layB, layC]))
        (refine tk 1 hS ?_; (try simp only [Act.put, layA, layB, layC]))
        (refine tk 2 hS ?_; (try simp only [Act.put, layA, layB, layC]))
        refine on 3 ?_
        refine callH (by go_simp; (first | done | with_reducible rfl | exact ⟨rfl, rfl⟩)) ?_
        go_at_call 45
        refine (iAuthOk_L kI0 (RdL.b kH) kL1n (RdL.b (ls := [((.slice xA0 xn0 xc0), .ints xL0), ((.slice xA1 xn1 xc1), .ints xL1)]) (RdL.sub xH (by simp))) xL0n xL1n).mono ?_
        rintro e w1 ⟨rfl, b1⟩
        clear hS
        have z1 := Below.size b1
        (try simp only [World.size_alloc, World.size_setCell, size_drew] at z1)
        have B1 : Below w.heap.size w w1 := Below.t b1
        have xk_ : Box w1 (w.heap.size) #[.int .i64 kI0, (.slice kA1 kn1 kc1)] 33 := (Box.b ((Box.new (g := w.heap.size) _ #[.int .i64 kI0, (.slice kA1 kn1 kc1)] 33 (by simp)).alloc _).drew b1)
        have xk := xk_; clear xk_
        have xx_ : Box w1 (w.heap.size + 1) #[(.slice xA0 xn0 xc0), (.slice xA1 xn1 xc1), (.slice xA2 xn2 xc2), (.slice xA3 xn3 xc3), (.slice xA4 xn4 xc4), (.slice xA5 xn5 xc5)] 68 := (Box.b (Box.new (g := w.heap.size + 1) _ #[(.slice xA0 xn0 xc0), (.slice xA1 xn1 xc1), (.slice xA2 xn2 xc2), (.slice xA3 xn3 xc3), (.slice xA4 xn4 xc4), (.slice xA5 xn5 xc5)] 68 (by simp)).drew b1)
        have xx := xx_; clear xx_
        refine ⟨.bool true, by rw [k1], ⟨xk.two.1, xk.two.2.1, xx.six.1, xx.six.2.1, xx.six.2.2.1, xx.six.2.2.2.1, xx.six.2.2.2.2.1, xx.six.2.2.2.2.2.1⟩, fun hS => ?_⟩
        (try simp only [Act.put, layA, layB, layC])
        (refine tk 4 hS ?_; (try simp only [Act.put, layA, layB, layC]))
        (refine tk 5 hS ?_; (try simp only [Act.put, layA, layB, layC]))
        (refine tk 6 hS ?_; (try simp only [Act.put, layA, layB, layC]))
        (refine tk 7 hS ?_; (try simp only [Act.put, layA, layB, layC]))
        refine on 8 ?_
        refine callH (by go_simp; (first | done | with_reducible rfl | exact ⟨rfl, rfl⟩)) ?_
        go_at_call 45
        refine (iAuthOk_L kI0 (RdL.b kH) kL1n (RdL.b (ls := [((.slice xA2 xn2 xc2), .ints xL2), ((.slice xA3 xn3 xc3), .ints xL3)]) (RdL.sub xH (by simp))) xL2n xL3n).mono ?_
        rintro e w2 ⟨rfl, b2⟩
        clear hS
        have z2 := Below.size b2
        (try simp only [World.size_alloc, World.size_setCell, size_drew] at z2)
        have B2 : Below w.heap.size w w2 := Below.t b2
        have xk_ : Box w2 (w.heap.size) #[.int .i64 kI0, (.slice kA1 kn1 kc1)] 33 := (Box.b xk b2)
        clear xk; have xk := xk_; clear xk_
        have xx_ : Box w2 (w.heap.size + 1) #[(.slice xA0 xn0 xc0), (.slice xA1 xn1 xc1), (.slice xA2 xn2 xc2), (.slice xA3 xn3 xc3), (.slice xA4 xn4 xc4), (.slice xA5 xn5 xc5)] 68 := (Box.b xx b2)
        clear xx; have xx := xx_; clear xx_
        refine ⟨.bool true, by rw [k2], ⟨xk.two.1, xk.two.2.1, xx.six.1, xx.six.2.1, xx.six.2.2.1, xx.six.2.2.2.1, xx.six.2.2.2.2.1, xx.six.2.2.2.2.2.1⟩, fun hS => ?_⟩
        (try simp only [Act.put, layA, layB, layC])
        (refine tk 9 hS ?_; (try simp only [Act.put, layA, layB, layC]))
        (refine tk 10 hS ?_; (try simp only [Act.put, layA, layB, layC]))
        (refine tk 11 hS ?_; (try simp only [Act.put, layA, layB, layC]))
        (refine tk 12 hS ?_; (try simp only [Act.put, layA, layB, layC]))
        (refine tk 13 hS ?_; (try simp only [Act.put, layA, layB, layC]))
        refine on 14 ?_
        refine callH (by go_simp; (first | done | with_reducible rfl | exact ⟨rfl, rfl⟩)) ?_
        go_at_call 45
        refine (iAuthOk_L kI0 (RdL.b kH) kL1n (RdL.b (ls := [((.slice xA4 xn4 xc4), .ints xL4), ((.slice xA5 xn5 xc5), .ints xL5)]) (RdL.sub xH (by simp))) xL4n xL5n).mono ?_
        rintro e w3 ⟨rfl, b3⟩
        clear hS
        have z3 := Below.size b3
        (try simp only [World.size_alloc, World.size_setCell, size_drew] at z3)
        have B3 : Below w.heap.size w w3 := Below.t b3
        have xk_ : Box w3 (w.heap.size) #[.int .i64 kI0, (.slice kA1 kn1 kc1)] 33 := (Box.b xk b3)
        clear xk; have xk := xk_; clear xk_
        have xx_ : Box w3 (w.heap.size + 1) #[(.slice xA0 xn0 xc0), (.slice xA1 xn1 xc1), (.slice xA2 xn2 xc2), (.slice xA3 xn3 xc3), (.slice xA4 xn4 xc4), (.slice xA5 xn5 xc5)] 68 := (Box.b xx b3)
        clear xx; have xx := xx_; clear xx_
        refine ⟨.bool true, by rw [k3], ⟨xk.two.1, xk.two.2.1, xx.six.1, xx.six.2.1, xx.six.2.2.1, xx.six.2.2.2.1, xx.six.2.2.2.2.1, xx.six.2.2.2.2.2.1⟩, fun hS => ?_⟩
        (try simp only [Act.put, layA, layB, layC])
        (refine tk 15 hS ?_; (try simp only [Act.put, layA, layB, layC]))
        (refine tk 16 hS ?_; (try simp only [Act.put, layA, layB, layC]))
        (refine tk 17 hS ?_; (try simp only [Act.put, layA, layB, layC]))
        (refine tk 18 hS ?_; (try simp only [Act.put, layA, layB, layC]))
        (refine tk 19 hS ?_; (try simp only [Act.put, layA, layB, layC]))
        (refine tk 21 hS ?_; (try simp only [Act.put, layA, layB, layC]))
        (refine tk 22 hS ?_; (try simp only [Act.put, layA, layB, layC]))
        (refine tk 23 hS ?_; (try simp only [Act.put, layA, layB, layC]))
        (refine tk 24 hS ?_; (try simp only [Act.put, layA, layB, layC]))
        (refine tk 25 hS ?_; (try simp only [Act.put, layA, layB, layC]))
        (refine tk 27 hS ?_; (try simp only [Act.put, layA, layB, layC]))
        (refine tk 28 hS ?_; (try simp only [Act.put, layA, layB, layC]))
        (refine tk 29 hS ?_; (try simp only [Act.put, layA, layB, layC]))
        refine on 20 ?_
        refine callH (by go_simp; (first | done | with_reducible rfl | exact ⟨rfl, rfl⟩)) ?_
        go_at_call 109
        refine (ivalueIn_L kI0 (RdL.b kH) kL1n (RdL.b (ls := [((.slice xA4 xn4 xc4), .ints xL4), ((.slice xA5 xn5 xc5), .ints xL5)]) (RdL.sub xH (by simp))) xL4n xL5n).mono ?_
        rintro e w4 ⟨rfl, b4⟩
        clear hS
        have z4 := Below.size b4
        (try simp only [World.size_alloc, World.size_setCell, size_drew] at z4)
        have B4 : Below w.heap.size w w4 := Below.t b4
        have xk_ : Box w4 (w.heap.size) #[.int .i64 kI0, (.slice kA1 kn1 kc1)] 33 := (Box.b xk b4)
        clear xk; have xk := xk_; clear xk_
        have xx_ : Box w4 (w.heap.size + 1) #[(.slice xA0 xn0 xc0), (.slice xA1 xn1 xc1), (.slice xA2 xn2 xc2), (.slice xA3 xn3 xc3), (.slice xA4 xn4 xc4), (.slice xA5 xn5 xc5)] 68 := (Box.b xx b4)
        clear xx; have xx := xx_; clear xx_
        refine ⟨_, rfl, ⟨xk.two.1, xk.two.2.1, xx.six.1, xx.six.2.1, xx.six.2.2.1, xx.six.2.2.2.1, xx.six.2.2.2.2.1, xx.six.2.2.2.2.2.1⟩, fun hS => ?_⟩
        (try simp only [Act.put, layA, layB, layC])
        refine on 26 ?_
        refine callH (by go_simp; (first | done | with_reducible rfl | exact ⟨rfl, rfl⟩)) ?_
        go_at_call 109
        refine (ivalueIn_L kI0 (RdL.b kH) kL1n (RdL.b (ls := [((.slice xA0 xn0 xc0), .ints xL0), ((.slice xA1 xn1 xc1), .ints xL1)]) (RdL.sub xH (by simp))) xL0n xL1n).mono ?_
        rintro e w5 ⟨rfl, b5⟩
        clear hS
        have z5 := Below.size b5
        (try simp only [World.size_alloc, World.size_setCell, size_drew] at z5)
        have B5 : Below w.heap.size w w5 := Below.t b5
        have xk_ : Box w5 (w.heap.size) #[.int .i64 kI0, (.slice kA1 kn1 kc1)] 33 := (Box.b xk b5)
        clear xk; have xk := xk_; clear xk_
        have xx_ : Box w5 (w.heap.size + 1) #[(.slice xA0 xn0 xc0), (.slice xA1 xn1 xc1), (.slice xA2 xn2 xc2), (.slice xA3 xn3 xc3), (.slice xA4 xn4 xc4), (.slice xA5 xn5 xc5)] 68 := (Box.b xx b5)
        clear xx; have xx := xx_; clear xx_
        refine ⟨_, rfl, ⟨xk.two.1, xk.two.2.1, xx.six.1, xx.six.2.1, xx.six.2.2.1, xx.six.2.2.2.1, xx.six.2.2.2.2.1, xx.six.2.2.2.2.2.1⟩, fun hS => ?_⟩
        (try simp only [Act.put, layA, layB, layC])
        refine on 30 ?_
        refine callH (by go_simp; (first | done | with_reducible rfl | exact ⟨rfl, rfl⟩)) ?_
        go_at_call 109
        refine (ivalueIn_L kI0 (RdL.b kH) kL1n (RdL.b (ls := [((.slice xA2 xn2 xc2), .ints xL2), ((.slice xA3 xn3 xc3), .ints xL3)]) (RdL.sub xH (by simp))) xL2n xL3n).mono ?_
        rintro e w6 ⟨rfl, b6⟩
        clear hS
        have z6 := Below.size b6
        (try simp only [World.size_alloc, World.size_setCell, size_drew] at z6)
        have B6 : Below w.heap.size w w6 := Below.t b6
        have xk_ : Box w6 (w.heap.size) #[.int .i64 kI0, (.slice kA1 kn1 kc1)] 33 := (Box.b xk b6)
        clear xk; have xk := xk_; clear xk_
        have xx_ : Box w6 (w.heap.size + 1) #[(.slice xA0 xn0 xc0), (.slice xA1 xn1 xc1), (.slice xA2 xn2 xc2), (.slice xA3 xn3 xc3), (.slice xA4 xn4 xc4), (.slice xA5 xn5 xc5)] 68 := (Box.b xx b6)
        clear xx; have xx := xx_; clear xx_
        refine ⟨_, rfl, ⟨xk.two.1, xk.two.2.1, xx.six.1, xx.six.2.1, xx.six.2.2.1, xx.six.2.2.2.1, xx.six.2.2.2.2.1, xx.six.2.2.2.2.2.1⟩, fun hS => ?_⟩
        (try simp only [Act.put, layA, layB, layC])
        refine on 31 ?_
        refine callH (by go_simp; (first | done | with_reducible rfl | exact ⟨rfl, rfl⟩)) ?_
        go_at_call 101
        refine (iFMul_any _ _ _ _).mono ?_
        rintro e w7 ⟨rfl, b7⟩
        clear hS
        have z7 := Below.size b7
        (try simp only [World.size_alloc, World.size_setCell, size_drew] at z7)
        have B7 : Below w.heap.size w w7 := Below.t b7
        have xk_ : Box w7 (w.heap.size) #[.int .i64 kI0, (.slice kA1 kn1 kc1)] 33 := (Box.b xk b7)
        clear xk; have xk := xk_; clear xk_
        have xx_ : Box w7 (w.heap.size + 1) #[(.slice xA0 xn0 xc0), (.slice xA1 xn1 xc1), (.slice xA2 xn2 xc2), (.slice xA3 xn3 xc3), (.slice xA4 xn4 xc4), (.slice xA5 xn5 xc5)] 68 := (Box.b xx b7)
        clear xx; have xx := xx_; clear xx_
        refine ⟨_, rfl, ⟨xk.two.1, xk.two.2.1, xx.six.1, xx.six.2.1, xx.six.2.2.1, xx.six.2.2.2.1, xx.six.2.2.2.2.1, xx.six.2.2.2.2.2.1⟩, fun hS => ?_⟩
        (try simp only [Act.put, layA, layB, layC])
        (refine tk 32 hS ?_; (try simp only [Act.put, layA, layB, layC]))
        (refine tk 33 hS ?_; (try simp only [Act.put, layA, layB, layC]))
        (refine tk 34 hS ?_; (try simp only [Act.put, layA, layB, layC]))
        clear hS
        refine wpAnyH_done (by kernel_rfl) ?_ _
        go_wp2
        go_ret
        exact ⟨ret_bool (by rw [HE.out, k1, k2, k3]; simp), by repeat (with_reducible (first | assumption | exact Below.refl _ _ | refine Below.alloc ?_ (by first | omega | (simp; done) | (simp; omega)) _ | refine Below.setCell ?_ (by first | omega | (simp; done) | (simp; omega)) _ | refine Below.drew ?_ | refine below_drewN ?_ _))⟩
set_option maxRecDepth 100000 in
set_option maxHeartbeats 2000000 in
theorem sTripleOpen_L {kA1 : Option Addr} {kn1 kc1 : Nat} {kL1 : List Int} {aA0 : Option Addr} {an0 ac0 : Nat} {aL0 : List Int} {aA1 : Option Addr} {an1 ac1 : Nat} {aL1 : List Int} {bA0 : Option Addr} {bn0 bc0 : Nat} {bL0 : List Int} {bA1 : Option Addr} {bn1 bc1 : Nat} {bL1 : List Int} {xA0 : Option Addr} {xn0 xc0 : Nat} {xL0 : List Int} {xA1 : Option Addr} {xn1 xc1 : Nat} {xL1 : List Int} {xA2 : Option Addr} {xn2 xc2 : Nat} {xL2 : List Int} {xA3 : Option Addr} {xn3 xc3 : Nat} {xL3 : List Int} {xA4 : Option Addr} {xn4 xc4 : Nat} {xL4 : List Int} {xA5 : Option Addr} {xn5 xc5 : Nat} {xL5 : List Int} {w : World} (kI0 : Int) (kH : RdL w [((.slice kA1 kn1 kc1), .ints kL1)]) (kL1n : kL1.length ≤ 1048576) (aH : RdL w [((.slice aA0 an0 ac0), .ints aL0), ((.slice aA1 an1 ac1), .ints aL1)]) (aL0n : aL0.length ≤ 1048576) (aL1n : aL1.length ≤ 1048576) (bH : RdL w [((.slice bA0 bn0 bc0), .ints bL0), ((.slice bA1 bn1 bc1), .ints bL1)]) (bL0n : bL0.length ≤ 1048576) (bL1n : bL1.length ≤ 1048576) (xH : RdL w [((.slice xA0 xn0 xc0), .ints xL0), ((.slice xA1 xn1 xc1), .ints xL1), ((.slice xA2 xn2 xc2), .ints xL2), ((.slice xA3 xn3 xc3), .ints xL3), ((.slice xA4 xn4 xc4), .ints xL4), ((.slice xA5 xn5 xc5), .ints xL5)]) (xL0n : xL0.length ≤ 1048576) (xL1n : xL1.length ≤ 1048576) (xL2n : xL2.length ≤ 1048576) (xL3n : xL3.length ≤ 1048576) (xL4n : xL4.length ≤ 1048576) (xL5n : xL5.length ≤ 1048576) :
    Calls Try.prog 63 #[.agg #[.int .i64 kI0, (.slice kA1 kn1 kc1)], .agg #[(.slice aA0 an0 ac0), (.slice aA1 an1 ac1)], .agg #[(.slice bA0 bn0 bc0), (.slice bA1 bn1 bc1)], .agg #[(.slice xA0 xn0 xc0), (.slice xA1 xn1 xc1), (.slice xA2 xn2 xc2), (.slice xA3 xn3 xc3), (.slice xA4 xn4 xc4), (.slice xA5 xn5 xc5)]] w fun e w' => e = .returned (.tuple #[.agg #[.int .i64 (toD kI0 kL1 aL0 aL1 bL0 bL1 xL0 xL1 xL2 xL3), .int .i64 (toE kI0 kL1 aL0 aL1 bL0 bL1 xL0 xL1 xL2 xL3)], .bool (form4 kI0 kL1 aL0 aL1 bL0 bL1 xL0 xL1 xL2 xL3)]) ∧ Below w.heap.size w w' := by
  have kL1i : Ints w kA1 kn1 kL1 := Rd.toInts (kH ((.slice kA1 kn1 kc1), .ints kL1) (by simp))
  have kL1l := Lib.hid kL1i.len
  have kL1m : kn1 ≤ 1048576 := by rw [← kL1l.out]; exact kL1n
  have aL0i : Ints w aA0 an0 aL0 := Rd.toInts (aH ((.slice aA0 an0 ac0), .ints aL0) (by simp))
  have aL0l := Lib.hid aL0i.len
  have aL0m : an0 ≤ 1048576 := by rw [← aL0l.out]; exact aL0n
  have aL1i : Ints w aA1 an1 aL1 := Rd.toInts (aH ((.slice aA1 an1 ac1), .ints aL1) (by simp))
  have aL1l := Lib.hid aL1i.len
  have aL1m : an1 ≤ 1048576 := by rw [← aL1l.out]; exact aL1n
  have bL0i : Ints w bA0 bn0 bL0 := Rd.toInts (bH ((.slice bA0 bn0 bc0), .ints bL0) (by simp))
  have bL0l := Lib.hid bL0i.len
  have bL0m : bn0 ≤ 1048576 := by rw [← bL0l.out]; exact bL0n
  have bL1i : Ints w bA1 bn1 bL1 := Rd.toInts (bH ((.slice bA1 bn1 bc1), .ints bL1) (by simp))
  have bL1l := Lib.hid bL1i.len
  have bL1m : bn1 ≤ 1048576 := by rw [← bL1l.out]; exact bL1n
  have xL0i : Ints w xA0 xn0 xL0 := Rd.toInts (xH ((.slice xA0 xn0 xc0), .ints xL0) (by simp))
  have xL0l := Lib.hid xL0i.len
  have xL0m : xn0 ≤ 1048576 := by rw [← xL0l.out]; exact xL0n
  have xL1i : Ints w xA1 xn1 xL1 := Rd.toInts (xH ((.slice xA1 xn1 xc1), .ints xL1) (by simp))
  have xL1l := Lib.hid xL1i.len
  have xL1m : xn1 ≤ 1048576 := by rw [← xL1l.out]; exact xL1n
  have xL2i : Ints w xA2 xn2 xL2 := Rd.toInts (xH ((.slice xA2 xn2 xc2), .ints xL2) (by simp))
  have xL2l := Lib.hid xL2i.len
  have xL2m : xn2 ≤ 1048576 := by rw [← xL2l.out]; exact xL2n
  have xL3i : Ints w xA3 xn3 xL3 := Rd.toInts (xH ((.slice xA3 xn3 xc3), .ints xL3) (by simp))
  have xL3l := Lib.hid xL3i.len
  have xL3m : xn3 ≤ 1048576 := by rw [← xL3l.out]; exact xL3n
  have xL4i : Ints w xA4 xn4 xL4 := Rd.toInts (xH ((.slice xA4 xn4 xc4), .ints xL4) (by simp))
  have xL4l := Lib.hid xL4i.len
  have xL4m : xn4 ≤ 1048576 := by rw [← xL4l.out]; exact xL4n
  have xL5i : Ints w xA5 xn5 xL5 := Rd.toInts (xH ((.slice xA5 xn5 xc5), .ints xL5) (by simp))
  have xL5l := Lib.hid xL5i.len
  have xL5m : xn5 ≤ 1048576 := by rw [← xL5l.out]; exact xL5n
  cases k1 : formOk kI0 kL1 aL0 aL1 with
  | false =>
    have HO : form4 kI0 kL1 aL0 aL1 bL0 bL1 xL0 xL1 xL2 xL3 = false := by simp [form4, k1]
    go_enter Try.func63, Try.ntmps63
    go_wp2_with fail
    refine (sl23Form_L kI0 (RdL.b kH) kL1n (RdL.b aH) aL0n aL1n).mono ?_
    rintro e w1 ⟨rfl, b1⟩
    have z1 := b1.size
    try simp only [World.size_alloc, World.size_setCell, size_drew] at z1
    have B1 : Below w.heap.size w w1 := Below.t b1
    have xk_ : Box w1 (w.heap.size) #[.int .i64 kI0, (.slice kA1 kn1 kc1)] 33 := (((((Box.new (g := w.heap.size) _ #[.int .i64 kI0, (.slice kA1 kn1 kc1)] 33 (by simp)).alloc _).alloc _).alloc _).alloc _).below b1 (by first | omega | (simp [size_drew]; done) | (simp [size_drew]; omega))
    have xk := xk_; clear xk_
    have xa_ : Box w1 (w.heap.size + 1) #[(.slice aA0 an0 ac0), (.slice aA1 an1 ac1)] 38 := ((((Box.new (g := w.heap.size + 1) _ #[(.slice aA0 an0 ac0), (.slice aA1 an1 ac1)] 38 (by simp)).alloc _).alloc _).alloc _).below b1 (by first | omega | (simp [size_drew]; done) | (simp [size_drew]; omega))
    have xa := xa_; clear xa_
    have xb_ : Box w1 (w.heap.size + 1 + 1) #[(.slice bA0 bn0 bc0), (.slice bA1 bn1 bc1)] 38 := (((Box.new (g := w.heap.size + 1 + 1) _ #[(.slice bA0 bn0 bc0), (.slice bA1 bn1 bc1)] 38 (by simp)).alloc _).alloc _).below b1 (by first | omega | (simp [size_drew]; done) | (simp [size_drew]; omega))
    have xb := xb_; clear xb_
    have xx_ : Box w1 (w.heap.size + 1 + 1 + 1) #[(.slice xA0 xn0 xc0), (.slice xA1 xn1 xc1), (.slice xA2 xn2 xc2), (.slice xA3 xn3 xc3), (.slice xA4 xn4 xc4), (.slice xA5 xn5 xc5)] 68 := ((Box.new (g := w.heap.size + 1 + 1 + 1) _ #[(.slice xA0 xn0 xc0), (.slice xA1 xn1 xc1), (.slice xA2 xn2 xc2), (.slice xA3 xn3 xc3), (.slice xA4 xn4 xc4), (.slice xA5 xn5 xc5)] 68 (by simp)).alloc _).below b1 (by first | omega | (simp [size_drew]; done) | (simp [size_drew]; omega))
    have xx := xx_; clear xx_
    have xr_ : Box w1 (w.heap.size + 1 + 1 + 1 + 1) #[.int .i64 0, .int .i64 0] 73 := (Box.new (g := w.heap.size + 1 + 1 + 1 + 1) _ #[.int .i64 0, .int .i64 0] 73 (by simp)).below b1 (by first | omega | (simp [size_drew]; done) | (simp [size_drew]; omega))
    have xr := xr_; clear xr_
    obtain ⟨cxr_0, cxr_1, fxr_0, fxr_1⟩ := xr.two
    have l_xr_0 : w.heap.size + 1 + 1 + 1 + 1 < w1.heap.size := by omega
    go_wp2
    refine bodyPost_ret (v := .tuple #[.agg #[.int .i64 (0), .int .i64 (0)], .bool false]) ?_ rfl ⟨by rw [toD_no HO, toE_no HO, HO], ?_⟩
    · simp [results, Try.results63, go_sem, cxr_0, cxr_1, fxr_0, fxr_1, l_xr_0]
    · repeat (with_reducible (first | assumption | exact Below.refl _ _ | refine Below.alloc ?_ (by first | omega | (simp; done) | (simp; omega)) _ | refine Below.setCell ?_ (by first | omega | (simp; done) | (simp; omega)) _ | refine Below.drew ?_ | refine below_drewN ?_ _))
  | true =>
    cases k2 : formOk kI0 kL1 bL0 bL1 with
    | false =>
      have HO : form4 kI0 kL1 aL0 aL1 bL0 bL1 xL0 xL1 xL2 xL3 = false := by simp [form4, k1, k2]
      go_enter Try.func63, Try.ntmps63
      go_wp2_with fail
      refine (sl23Form_L kI0 (RdL.b kH) kL1n (RdL.b aH) aL0n aL1n).mono ?_
      rintro e w1 ⟨rfl, b1⟩
      have z1 := b1.size
      try simp only [World.size_alloc, World.size_setCell, size_drew] at z1
      have B1 : Below w.heap.size w w1 := Below.t b1
      have xk_ : Box w1 (w.heap.size) #[.int .i64 kI0, (.slice kA1 kn1 kc1)] 33 := (((((Box.new (g := w.heap.size) _ #[.int .i64 kI0, (.slice kA1 kn1 kc1)] 33 (by simp)).alloc _).alloc _).alloc _).alloc _).below b1 (by first | omega | (simp [size_drew]; done) | (simp [size_drew]; omega))
      have xk := xk_; clear xk_
      have xa_ : Box w1 (w.heap.size + 1) #[(.slice aA0 an0 ac0), (.slice aA1 an1 ac1)] 38 := ((((Box.new (g := w.heap.size + 1) _ #[(.slice aA0 an0 ac0), (.slice aA1 an1 ac1)] 38 (by simp)).alloc _).alloc _).alloc _).below b1 (by first | omega | (simp [size_drew]; done) | (simp [size_drew]; omega))
      have xa := xa_; clear xa_
      have xb_ : Box w1 (w.heap.size + 1 + 1) #[(.slice bA0 bn0 bc0), (.slice bA1 bn1 bc1)] 38 := (((Box.new (g := w.heap.size + 1 + 1) _ #[(.slice bA0 bn0 bc0), (.slice bA1 bn1 bc1)] 38 (by simp)).alloc _).alloc _).below b1 (by first | omega | (simp [size_drew]; done) | (simp [size_drew]; omega))
      have xb := xb_; clear xb_
      have xx_ : Box w1 (w.heap.size + 1 + 1 + 1) #[(.slice xA0 xn0 xc0), (.slice xA1 xn1 xc1), (.slice xA2 xn2 xc2), (.slice xA3 xn3 xc3), (.slice xA4 xn4 xc4), (.slice xA5 xn5 xc5)] 68 := ((Box.new (g := w.heap.size + 1 + 1 + 1) _ #[(.slice xA0 xn0 xc0), (.slice xA1 xn1 xc1), (.slice xA2 xn2 xc2), (.slice xA3 xn3 xc3), (.slice xA4 xn4 xc4), (.slice xA5 xn5 xc5)] 68 (by simp)).alloc _).below b1 (by first | omega | (simp [size_drew]; done) | (simp [size_drew]; omega))
      have xx := xx_; clear xx_
      have xr_ : Box w1 (w.heap.size + 1 + 1 + 1 + 1) #[.int .i64 0, .int .i64 0] 73 := (Box.new (g := w.heap.size + 1 + 1 + 1 + 1) _ #[.int .i64 0, .int .i64 0] 73 (by simp)).below b1 (by first | omega | (simp [size_drew]; done) | (simp [size_drew]; omega))
      have xr := xr_; clear xr_
      obtain ⟨cxk_0, cxk_1, fxk_0, fxk_1⟩ := xk.two
      have l_xk_0 : w.heap.size < w1.heap.size := by omega
      obtain ⟨cxb_0, cxb_1, fxb_0, fxb_1⟩ := xb.two
      have l_xb_0 : w.heap.size + 1 + 1 < w1.heap.size := by omega
      go_wp2_with fail
      refine (sl23Form_L kI0 (RdL.b kH) kL1n (RdL.b bH) bL0n bL1n).mono ?_
      rintro e w2 ⟨rfl, b2⟩
      clear cxk_0 cxk_1 fxk_0 fxk_1 l_xk_0 cxb_0 cxb_1 fxb_0 fxb_1 l_xb_0
      have z2 := b2.size
      try simp only [World.size_alloc, World.size_setCell, size_drew] at z2
      have B2 : Below w.heap.size w w2 := Below.t b2
      have xk_ : Box w2 (w.heap.size) #[.int .i64 kI0, (.slice kA1 kn1 kc1)] 33 := xk.below b2 (by first | omega | (simp [size_drew]; done) | (simp [size_drew]; omega))
      clear xk; have xk := xk_; clear xk_
      have xa_ : Box w2 (w.heap.size + 1) #[(.slice aA0 an0 ac0), (.slice aA1 an1 ac1)] 38 := xa.below b2 (by first | omega | (simp [size_drew]; done) | (simp [size_drew]; omega))
      clear xa; have xa := xa_; clear xa_
      have xb_ : Box w2 (w.heap.size + 1 + 1) #[(.slice bA0 bn0 bc0), (.slice bA1 bn1 bc1)] 38 := xb.below b2 (by first | omega | (simp [size_drew]; done) | (simp [size_drew]; omega))
      clear xb; have xb := xb_; clear xb_
      have xx_ : Box w2 (w.heap.size + 1 + 1 + 1) #[(.slice xA0 xn0 xc0), (.slice xA1 xn1 xc1), (.slice xA2 xn2 xc2), (.slice xA3 xn3 xc3), (.slice xA4 xn4 xc4), (.slice xA5 xn5 xc5)] 68 := xx.below b2 (by first | omega | (simp [size_drew]; done) | (simp [size_drew]; omega))
      clear xx; have xx := xx_; clear xx_
      have xr_ : Box w2 (w.heap.size + 1 + 1 + 1 + 1) #[.int .i64 0, .int .i64 0] 73 := xr.below b2 (by first | omega | (simp [size_drew]; done) | (simp [size_drew]; omega))
      clear xr; have xr := xr_; clear xr_
      obtain ⟨cxr_0, cxr_1, fxr_0, fxr_1⟩ := xr.two
      have l_xr_0 : w.heap.size + 1 + 1 + 1 + 1 < w2.heap.size := by omega
      go_wp2
      refine bodyPost_ret (v := .tuple #[.agg #[.int .i64 (0), .int .i64 (0)], .bool false]) ?_ rfl ⟨by rw [toD_no HO, toE_no HO, HO], ?_⟩
      · simp [results, Try.results63, go_sem, cxr_0, cxr_1, fxr_0, fxr_1, l_xr_0]
      · repeat (with_reducible (first | assumption | exact Below.refl _ _ | refine Below.alloc ?_ (by first | omega | (simp; done) | (simp; omega)) _ | refine Below.setCell ?_ (by first | omega | (simp; done) | (simp; omega)) _ | refine Below.drew ?_ | refine below_drewN ?_ _))
    | true =>
      cases k3 : formOk kI0 kL1 xL0 xL1 with
      | false =>
        have HO : form4 kI0 kL1 aL0 aL1 bL0 bL1 xL0 xL1 xL2 xL3 = false := by simp [form4, k1, k2, k3]
        go_enter Try.func63, Try.ntmps63
        go_wp2_with fail
        refine (sl23Form_L kI0 (RdL.b kH) kL1n (RdL.b aH) aL0n aL1n).mono ?_
        rintro e w1 ⟨rfl, b1⟩
        have z1 := b1.size
        try simp only [World.size_alloc, World.size_setCell, size_drew] at z1
        have B1 : Below w.heap.size w w1 := Below.t b1
        have xk_ : Box w1 (w.heap.size) #[.int .i64 kI0, (.slice kA1 kn1 kc1)] 33 := (((((Box.new (g := w.heap.size) _ #[.int .i64 kI0, (.slice kA1 kn1 kc1)] 33 (by simp)).alloc _).alloc _).alloc _).alloc _).below b1 (by first | omega | (simp [size_drew]; done) | (simp [size_drew]; omega))
        have xk := xk_; clear xk_
        have xa_ : Box w1 (w.heap.size + 1) #[(.slice aA0 an0 ac0), (.slice aA1 an1 ac1)] 38 := ((((Box.new (g := w.heap.size + 1) _ #[(.slice aA0 an0 ac0), (.slice aA1 an1 ac1)] 38 (by simp)).alloc _).alloc _).alloc _).below b1 (by first | omega | (simp [size_drew]; done) | (simp [size_drew]; omega))
        have xa := xa_; clear xa_
        have xb_ : Box w1 (w.heap.size + 1 + 1) #[(.slice bA0 bn0 bc0), (.slice bA1 bn1 bc1)] 38 := (((Box.new (g := w.heap.size + 1 + 1) _ #[(.slice bA0 bn0 bc0), (.slice bA1 bn1 bc1)] 38 (by simp)).alloc _).alloc _).below b1 (by first | omega | (simp [size_drew]; done) | (simp [size_drew]; omega))
        have xb := xb_; clear xb_
        have xx_ : Box w1 (w.heap.size + 1 + 1 + 1) #[(.slice xA0 xn0 xc0), (.slice xA1 xn1 xc1), (.slice xA2 xn2 xc2), (.slice xA3 xn3 xc3), (.slice xA4 xn4 xc4), (.slice xA5 xn5 xc5)] 68 := ((Box.new (g := w.heap.size + 1 + 1 + 1) _ #[(.slice xA0 xn0 xc0), (.slice xA1 xn1 xc1), (.slice xA2 xn2 xc2), (.slice xA3 xn3 xc3), (.slice xA4 xn4 xc4), (.slice xA5 xn5 xc5)] 68 (by simp)).alloc _).below b1 (by first | omega | (simp [size_drew]; done) | (simp [size_drew]; omega))
        have xx := xx_; clear xx_
        have xr_ : Box w1 (w.heap.size + 1 + 1 + 1 + 1) #[.int .i64 0, .int .i64 0] 73 := (Box.new (g := w.heap.size + 1 + 1 + 1 + 1) _ #[.int .i64 0, .int .i64 0] 73 (by simp)).below b1 (by first | omega | (simp [size_drew]; done) | (simp [size_drew]; omega))
        have xr := xr_; clear xr_
        obtain ⟨cxk_0, cxk_1, fxk_0, fxk_1⟩ := xk.two
        have l_xk_0 : w.heap.size < w1.heap.size := by omega
        obtain ⟨cxb_0, cxb_1, fxb_0, fxb_1⟩ := xb.two
        have l_xb_0 : w.heap.size + 1 + 1 < w1.heap.size := by omega
        go_wp2_with fail
        refine (sl23Form_L kI0 (RdL.b kH) kL1n (RdL.b bH) bL0n bL1n).mono ?_
        rintro e w2 ⟨rfl, b2⟩
        clear cxk_0 cxk_1 fxk_0 fxk_1 l_xk_0 cxb_0 cxb_1 fxb_0 fxb_1 l_xb_0
        have z2 := b2.size
        try simp only [World.size_alloc, World.size_setCell, size_drew] at z2
        have B2 : Below w.heap.size w w2 := Below.t b2
        have xk_ : Box w2 (w.heap.size) #[.int .i64 kI0, (.slice kA1 kn1 kc1)] 33 := xk.below b2 (by first | omega | (simp [size_drew]; done) | (simp [size_drew]; omega))
        clear xk; have xk := xk_; clear xk_
        have xa_ : Box w2 (w.heap.size + 1) #[(.slice aA0 an0 ac0), (.slice aA1 an1 ac1)] 38 := xa.below b2 (by first | omega | (simp [size_drew]; done) | (simp [size_drew]; omega))
        clear xa; have xa := xa_; clear xa_
        have xb_ : Box w2 (w.heap.size + 1 + 1) #[(.slice bA0 bn0 bc0), (.slice bA1 bn1 bc1)] 38 := xb.below b2 (by first | omega | (simp [size_drew]; done) | (simp [size_drew]; omega))
        clear xb; have xb := xb_; clear xb_
        have xx_ : Box w2 (w.heap.size + 1 + 1 + 1) #[(.slice xA0 xn0 xc0), (.slice xA1 xn1 xc1), (.slice xA2 xn2 xc2), (.slice xA3 xn3 xc3), (.slice xA4 xn4 xc4), (.slice xA5 xn5 xc5)] 68 := xx.below b2 (by first | omega | (simp [size_drew]; done) | (simp [size_drew]; omega))
        clear xx; have xx := xx_; clear xx_
        have xr_ : Box w2 (w.heap.size + 1 + 1 + 1 + 1) #[.int .i64 0, .int .i64 0] 73 := xr.below b2 (by first | omega | (simp [size_drew]; done) | (simp [size_drew]; omega))
        clear xr; have xr := xr_; clear xr_
        obtain ⟨cxk_0, cxk_1, fxk_0, fxk_1⟩ := xk.two
        have l_xk_0 : w.heap.size < w2.heap.size := by omega
        obtain ⟨cxx_0, cxx_1, cxx_2, cxx_3, cxx_4, cxx_5, fxx_0, fxx_1, fxx_2, fxx_3, fxx_4, fxx_5⟩ := xx.six
        have l_xx_0 : w.heap.size + 1 + 1 + 1 < w2.heap.size := by omega
        go_wp2_with fail
        refine (sl23Form_L kI0 (RdL.b kH) kL1n (RdL.b (ls := [((.slice xA0 xn0 xc0), .ints xL0), ((.slice xA1 xn1 xc1), .ints xL1)]) (RdL.sub xH (by simp))) xL0n xL1n).mono ?_
        rintro e w3 ⟨rfl, b3⟩
        clear cxk_0 cxk_1 fxk_0 fxk_1 l_xk_0 cxx_0 cxx_1 cxx_2 cxx_3 cxx_4 cxx_5 fxx_0 fxx_1 fxx_2 fxx_3 fxx_4 fxx_5 l_xx_0
        have z3 := b3.size
        try simp only [World.size_alloc, World.size_setCell, size_drew] at z3
        have B3 : Below w.heap.size w w3 := Below.t b3
        have xk_ : Box w3 (w.heap.size) #[.int .i64 kI0, (.slice kA1 kn1 kc1)] 33 := xk.below b3 (by first | omega | (simp [size_drew]; done) | (simp [size_drew]; omega))
        clear xk; have xk := xk_; clear xk_
        have xa_ : Box w3 (w.heap.size + 1) #[(.slice aA0 an0 ac0), (.slice aA1 an1 ac1)] 38 := xa.below b3 (by first | omega | (simp [size_drew]; done) | (simp [size_drew]; omega))
        clear xa; have xa := xa_; clear xa_
        have xb_ : Box w3 (w.heap.size + 1 + 1) #[(.slice bA0 bn0 bc0), (.slice bA1 bn1 bc1)] 38 := xb.below b3 (by first | omega | (simp [size_drew]; done) | (simp [size_drew]; omega))
        clear xb; have xb := xb_; clear xb_
        have xx_ : Box w3 (w.heap.size + 1 + 1 + 1) #[(.slice xA0 xn0 xc0), (.slice xA1 xn1 xc1), (.slice xA2 xn2 xc2), (.slice xA3 xn3 xc3), (.slice xA4 xn4 xc4), (.slice xA5 xn5 xc5)] 68 := xx.below b3 (by first | omega | (simp [size_drew]; done) | (simp [size_drew]; omega))
        clear xx; have xx := xx_; clear xx_
        have xr_ : Box w3 (w.heap.size + 1 + 1 + 1 + 1) #[.int .i64 0, .int .i64 0] 73 := xr.below b3 (by first | omega | (simp [size_drew]; done) | (simp [size_drew]; omega))
        clear xr; have xr := xr_; clear xr_
        obtain ⟨cxr_0, cxr_1, fxr_0, fxr_1⟩ := xr.two
        have l_xr_0 : w.heap.size + 1 + 1 + 1 + 1 < w3.heap.size := by omega
        go_wp2
        refine bodyPost_ret (v := .tuple #[.agg #[.int .i64 (0), .int .i64 (0)], .bool false]) ?_ rfl ⟨by rw [toD_no HO, toE_no HO, HO], ?_⟩
        · simp [results, Try.results63, go_sem, cxr_0, cxr_1, fxr_0, fxr_1, l_xr_0]
        · repeat (with_reducible (first | assumption | exact Below.refl _ _ | refine Below.alloc ?_ (by first | omega | (simp; done) | (simp; omega)) _ | refine Below.setCell ?_ (by first | omega | (simp; done) | (simp; omega)) _ | refine Below.drew ?_ | refine below_drewN ?_ _))
      | true =>
        cases k4 : formOk kI0 kL1 xL2 xL3 with
        | false =>
          have HO : form4 kI0 kL1 aL0 aL1 bL0 bL1 xL0 xL1 xL2 xL3 = false := by simp [form4, k1, k2, k3, k4]
          go_enter Try.func63, Try.ntmps63
          go_wp2_with fail
          refine (sl23Form_L kI0 (RdL.b kH) kL1n (RdL.b aH) aL0n aL1n).mono ?_
          rintro e w1 ⟨rfl, b1⟩
          have z1 := b1.size
          try simp only [World.size_alloc, World.size_setCell, size_drew] at z1
          have B1 : Below w.heap.size w w1 := Below.t b1
          have xk_ : Box w1 (w.heap.size) #[.int .i64 kI0, (.slice kA1 kn1 kc1)] 33 := (((((Box.new (g := w.heap.size) _ #[.int .i64 kI0, (.slice kA1 kn1 kc1)] 33 (by simp)).alloc _).alloc _).alloc _).alloc _).below b1 (by first | omega | (simp [size_drew]; done) | (simp [size_drew]; omega))
          have xk := xk_; clear xk_
          have xa_ : Box w1 (w.heap.size + 1) #[(.slice aA0 an0 ac0), (.slice aA1 an1 ac1)] 38 := ((((Box.new (g := w.heap.size + 1) _ #[(.slice aA0 an0 ac0), (.slice aA1 an1 ac1)] 38 (by simp)).alloc _).alloc _).alloc _).below b1 (by first | omega | (simp [size_drew]; done) | (simp [size_drew]; omega))
          have xa := xa_; clear xa_
          have xb_ : Box w1 (w.heap.size + 1 + 1) #[(.slice bA0 bn0 bc0), (.slice bA1 bn1 bc1)] 38 := (((Box.new (g := w.heap.size + 1 + 1) _ #[(.slice bA0 bn0 bc0), (.slice bA1 bn1 bc1)] 38 (by simp)).alloc _).alloc _).below b1 (by first | omega | (simp [size_drew]; done) | (simp [size_drew]; omega))
          have xb := xb_; clear xb_
          have xx_ : Box w1 (w.heap.size + 1 + 1 + 1) #[(.slice xA0 xn0 xc0), (.slice xA1 xn1 xc1), (.slice xA2 xn2 xc2), (.slice xA3 xn3 xc3), (.slice xA4 xn4 xc4), (.slice xA5 xn5 xc5)] 68 := ((Box.new (g := w.heap.size + 1 + 1 + 1) _ #[(.slice xA0 xn0 xc0), (.slice xA1 xn1 xc1), (.slice xA2 xn2 xc2), (.slice xA3 xn3 xc3), (.slice xA4 xn4 xc4), (.slice xA5 xn5 xc5)] 68 (by simp)).alloc _).below b1 (by first | omega | (simp [size_drew]; done) | (simp [size_drew]; omega))
          have xx := xx_; clear xx_
          have xr_ : Box w1 (w.heap.size + 1 + 1 + 1 + 1) #[.int .i64 0, .int .i64 0] 73 := (Box.new (g := w.heap.size + 1 + 1 + 1 + 1) _ #[.int .i64 0, .int .i64 0] 73 (by simp)).below b1 (by first | omega | (simp [size_drew]; done) | (simp [size_drew]; omega))
          have xr := xr_; clear xr_
          obtain ⟨cxk_0, cxk_1, fxk_0, fxk_1⟩ := xk.two
          have l_xk_0 : w.heap.size < w1.heap.size := by omega
          obtain ⟨cxb_0, cxb_1, fxb_0, fxb_1⟩ := xb.two
          have l_xb_0 : w.heap.size + 1 + 1 < w1.heap.size := by omega
          go_wp2_with fail
          refine (sl23Form_L kI0 (RdL.b kH) kL1n (RdL.b bH) bL0n bL1n).mono ?_
          rintro e w2 ⟨rfl, b2⟩
          clear cxk_0 cxk_1 fxk_0 fxk_1 l_xk_0 cxb_0 cxb_1 fxb_0 fxb_1 l_xb_0
          have z2 := b2.size
          try simp only [World.size_alloc, World.size_setCell, size_drew] at z2
          have B2 : Below w.heap.size w w2 := Below.t b2
          have xk_ : Box w2 (w.heap.size) #[.int .i64 kI0, (.slice kA1 kn1 kc1)] 33 := xk.below b2 (by first | omega | (simp [size_drew]; done) | (simp [size_drew]; omega))
          clear xk; have xk := xk_; clear xk_
          have xa_ : Box w2 (w.heap.size + 1) #[(.slice aA0 an0 ac0), (.slice aA1 an1 ac1)] 38 := xa.below b2 (by first | omega | (simp [size_drew]; done) | (simp [size_drew]; omega))
          clear xa; have xa := xa_; clear xa_
          have xb_ : Box w2 (w.heap.size + 1 + 1) #[(.slice bA0 bn0 bc0), (.slice bA1 bn1 bc1)] 38 := xb.below b2 (by first | omega | (simp [size_drew]; done) | (simp [size_drew]; omega))
          clear xb; have xb := xb_; clear xb_
          have xx_ : Box w2 (w.heap.size + 1 + 1 + 1) #[(.slice xA0 xn0 xc0), (.slice xA1 xn1 xc1), (.slice xA2 xn2 xc2), (.slice xA3 xn3 xc3), (.slice xA4 xn4 xc4), (.slice xA5 xn5 xc5)] 68 := xx.below b2 (by first | omega | (simp [size_drew]; done) | (simp [size_drew]; omega))
          clear xx; have xx := xx_; clear xx_
          have xr_ : Box w2 (w.heap.size + 1 + 1 + 1 + 1) #[.int .i64 0, .int .i64 0] 73 := xr.below b2 (by first | omega | (simp [size_drew]; done) | (simp [size_drew]; omega))
          clear xr; have xr := xr_; clear xr_
          obtain ⟨cxk_0, cxk_1, fxk_0, fxk_1⟩ := xk.two
          have l_xk_0 : w.heap.size < w2.heap.size := by omega
          obtain ⟨cxx_0, cxx_1, cxx_2, cxx_3, cxx_4, cxx_5, fxx_0, fxx_1, fxx_2, fxx_3, fxx_4, fxx_5⟩ := xx.six
          have l_xx_0 : w.heap.size + 1 + 1 + 1 < w2.heap.size := by omega
          go_wp2_with fail
          refine (sl23Form_L kI0 (RdL.b kH) kL1n (RdL.b (ls := [((.slice xA0 xn0 xc0), .ints xL0), ((.slice xA1 xn1 xc1), .ints xL1)]) (RdL.sub xH (by simp))) xL0n xL1n).mono ?_
          rintro e w3 ⟨rfl, b3⟩
          clear cxk_0 cxk_1 fxk_0 fxk_1 l_xk_0 cxx_0 cxx_1 cxx_2 cxx_3 cxx_4 cxx_5 fxx_0 fxx_1 fxx_2 fxx_3 fxx_4 fxx_5 l_xx_0
          have z3 := b3.size
          try simp only [World.size_alloc, World.size_setCell, size_drew] at z3
          have B3 : Below w.heap.size w w3 := Below.t b3
          have xk_ : Box w3 (w.heap.size) #[.int .i64 kI0, (.slice kA1 kn1 kc1)] 33 := xk.below b3 (by first | omega | (simp [size_drew]; done) | (simp [size_drew]; omega))
          clear xk; have xk := xk_; clear xk_
          have xa_ : Box w3 (w.heap.size + 1) #[(.slice aA0 an0 ac0), (.slice aA1 an1 ac1)] 38 := xa.below b3 (by first | omega | (simp [size_drew]; done) | (simp [size_drew]; omega))
          clear xa; have xa := xa_; clear xa_
          have xb_ : Box w3 (w.heap.size + 1 + 1) #[(.slice bA0 bn0 bc0), (.slice bA1 bn1 bc1)] 38 := xb.below b3 (by first | omega | (simp [size_drew]; done) | (simp [size_drew]; omega))
          clear xb; have xb := xb_; clear xb_
          have xx_ : Box w3 (w.heap.size + 1 + 1 + 1) #[(.slice xA0 xn0 xc0), (.slice xA1 xn1 xc1), (.slice xA2 xn2 xc2), (.slice xA3 xn3 xc3), (.slice xA4 xn4 xc4), (.slice xA5 xn5 xc5)] 68 := xx.below b3 (by first | omega | (simp [size_drew]; done) | (simp [size_drew]; omega))
          clear xx; have xx := xx_; clear xx_
          have xr_ : Box w3 (w.heap.size + 1 + 1 + 1 + 1) #[.int .i64 0, .int .i64 0] 73 := xr.below b3 (by first | omega | (simp [size_drew]; done) | (simp [size_drew]; omega))
          clear xr; have xr := xr_; clear xr_
          obtain ⟨cxk_0, cxk_1, fxk_0, fxk_1⟩ := xk.two
          have l_xk_0 : w.heap.size < w3.heap.size := by omega
          obtain ⟨cxx_0, cxx_1, cxx_2, cxx_3, cxx_4, cxx_5, fxx_0, fxx_1, fxx_2, fxx_3, fxx_4, fxx_5⟩ := xx.six
          have l_xx_0 : w.heap.size + 1 + 1 + 1 < w3.heap.size := by omega
          go_wp2_with fail
          refine (sl23Form_L kI0 (RdL.b kH) kL1n (RdL.b (ls := [((.slice xA2 xn2 xc2), .ints xL2), ((.slice xA3 xn3 xc3), .ints xL3)]) (RdL.sub xH (by simp))) xL2n xL3n).mono ?_
          rintro e w4 ⟨rfl, b4⟩
          clear cxk_0 cxk_1 fxk_0 fxk_1 l_xk_0 cxx_0 cxx_1 cxx_2 cxx_3 cxx_4 cxx_5 fxx_0 fxx_1 fxx_2 fxx_3 fxx_4 fxx_5 l_xx_0
          have z4 := b4.size
          try simp only [World.size_alloc, World.size_setCell, size_drew] at z4
          have B4 : Below w.heap.size w w4 := Below.t b4
          have xk_ : Box w4 (w.heap.size) #[.int .i64 kI0, (.slice kA1 kn1 kc1)] 33 := xk.below b4 (by first | omega | (simp [size_drew]; done) | (simp [size_drew]; omega))
          clear xk; have xk := xk_; clear xk_
          have xa_ : Box w4 (w.heap.size + 1) #[(.slice aA0 an0 ac0), (.slice aA1 an1 ac1)] 38 := xa.below b4 (by first | omega | (simp [size_drew]; done) | (simp [size_drew]; omega))
          clear xa; have xa := xa_; clear xa_
          have xb_ : Box w4 (w.heap.size + 1 + 1) #[(.slice bA0 bn0 bc0), (.slice bA1 bn1 bc1)] 38 := xb.below b4 (by first | omega | (simp [size_drew]; done) | (simp [size_drew]; omega))
          clear xb; have xb := xb_; clear xb_
          have xx_ : Box w4 (w.heap.size + 1 + 1 + 1) #[(.slice xA0 xn0 xc0), (.slice xA1 xn1 xc1), (.slice xA2 xn2 xc2), (.slice xA3 xn3 xc3), (.slice xA4 xn4 xc4), (.slice xA5 xn5 xc5)] 68 := xx.below b4 (by first | omega | (simp [size_drew]; done) | (simp [size_drew]; omega))
          clear xx; have xx := xx_; clear xx_
          have xr_ : Box w4 (w.heap.size + 1 + 1 + 1 + 1) #[.int .i64 0, .int .i64 0] 73 := xr.below b4 (by first | omega | (simp [size_drew]; done) | (simp [size_drew]; omega))
          clear xr; have xr := xr_; clear xr_
          obtain ⟨cxr_0, cxr_1, fxr_0, fxr_1⟩ := xr.two
          have l_xr_0 : w.heap.size + 1 + 1 + 1 + 1 < w4.heap.size := by omega
          go_wp2
          refine bodyPost_ret (v := .tuple #[.agg #[.int .i64 (0), .int .i64 (0)], .bool false]) ?_ rfl ⟨by rw [toD_no HO, toE_no HO, HO], ?_⟩
          · simp [results, Try.results63, go_sem, cxr_0, cxr_1, fxr_0, fxr_1, l_xr_0]
          · repeat (with_reducible (first | assumption | exact Below.refl _ _ | refine Below.alloc ?_ (by first | omega | (simp; done) | (simp; omega)) _ | refine Below.setCell ?_ (by first | omega | (simp; done) | (simp; omega)) _ | refine Below.drew ?_ | refine below_drewN ?_ _))
        | true =>
          have HO : form4 kI0 kL1 aL0 aL1 bL0 bL1 xL0 xL1 xL2 xL3 = true := by simp [form4, k1, k2, k3, k4]
          go_enter Try.func63, Try.ntmps63
          go_wp2_with fail
          refine (sl23Form_L kI0 (RdL.b kH) kL1n (RdL.b aH) aL0n aL1n).mono ?_
          rintro e w1 ⟨rfl, b1⟩
          have z1 := b1.size
          try simp only [World.size_alloc, World.size_setCell, size_drew] at z1
          have B1 : Below w.heap.size w w1 := Below.t b1
          have xk_ : Box w1 (w.heap.size) #[.int .i64 kI0, (.slice kA1 kn1 kc1)] 33 := (((((Box.new (g := w.heap.size) _ #[.int .i64 kI0, (.slice kA1 kn1 kc1)] 33 (by simp)).alloc _).alloc _).alloc _).alloc _).below b1 (by first | omega | (simp [size_drew]; done) | (simp [size_drew]; omega))
          have xk := xk_; clear xk_
          have xa_ : Box w1 (w.heap.size + 1) #[(.slice aA0 an0 ac0), (.slice aA1 an1 ac1)] 38 := ((((Box.new (g := w.heap.size + 1) _ #[(.slice aA0 an0 ac0), (.slice aA1 an1 ac1)] 38 (by simp)).alloc _).alloc _).alloc _).below b1 (by first | omega | (simp [size_drew]; done) | (simp [size_drew]; omega))
          have xa := xa_; clear xa_
          have xb_ : Box w1 (w.heap.size + 1 + 1) #[(.slice bA0 bn0 bc0), (.slice bA1 bn1 bc1)] 38 := (((Box.new (g := w.heap.size + 1 + 1) _ #[(.slice bA0 bn0 bc0), (.slice bA1 bn1 bc1)] 38 (by simp)).alloc _).alloc _).below b1 (by first | omega | (simp [size_drew]; done) | (simp [size_drew]; omega))
          have xb := xb_; clear xb_
          have xx_ : Box w1 (w.heap.size + 1 + 1 + 1) #[(.slice xA0 xn0 xc0), (.slice xA1 xn1 xc1), (.slice xA2 xn2 xc2), (.slice xA3 xn3 xc3), (.slice xA4 xn4 xc4), (.slice xA5 xn5 xc5)] 68 := ((Box.new (g := w.heap.size + 1 + 1 + 1) _ #[(.slice xA0 xn0 xc0), (.slice xA1 xn1 xc1), (.slice xA2 xn2 xc2), (.slice xA3 xn3 xc3), (.slice xA4 xn4 xc4), (.slice xA5 xn5 xc5)] 68 (by simp)).alloc _).below b1 (by first | omega | (simp [size_drew]; done) | (simp [size_drew]; omega))
          have xx := xx_; clear xx_
          have xr_ : Box w1 (w.heap.size + 1 + 1 + 1 + 1) #[.int .i64 0, .int .i64 0] 73 := (Box.new (g := w.heap.size + 1 + 1 + 1 + 1) _ #[.int .i64 0, .int .i64 0] 73 (by simp)).below b1 (by first | omega | (simp [size_drew]; done) | (simp [size_drew]; omega))
          have xr := xr_; clear xr_
          obtain ⟨cxk_0, cxk_1, fxk_0, fxk_1⟩ := xk.two
          have l_xk_0 : w.heap.size < w1.heap.size := by omega
          obtain ⟨cxb_0, cxb_1, fxb_0, fxb_1⟩ := xb.two
          have l_xb_0 : w.heap.size + 1 + 1 < w1.heap.size := by omega
          go_wp2_with fail
          refine (sl23Form_L kI0 (RdL.b kH) kL1n (RdL.b bH) bL0n bL1n).mono ?_
          rintro e w2 ⟨rfl, b2⟩
          clear cxk_0 cxk_1 fxk_0 fxk_1 l_xk_0 cxb_0 cxb_1 fxb_0 fxb_1 l_xb_0
          have z2 := b2.size
          try simp only [World.size_alloc, World.size_setCell, size_drew] at z2
          have B2 : Below w.heap.size w w2 := Below.t b2
          have xk_ : Box w2 (w.heap.size) #[.int .i64 kI0, (.slice kA1 kn1 kc1)] 33 := xk.below b2 (by first | omega | (simp [size_drew]; done) | (simp [size_drew]; omega))
          clear xk; have xk := xk_; clear xk_
          have xa_ : Box w2 (w.heap.size + 1) #[(.slice aA0 an0 ac0), (.slice aA1 an1 ac1)] 38 := xa.below b2 (by first | omega | (simp [size_drew]; done) | (simp [size_drew]; omega))
          clear xa; have xa := xa_; clear xa_
          have xb_ : Box w2 (w.heap.size + 1 + 1) #[(.slice bA0 bn0 bc0), (.slice bA1 bn1 bc1)] 38 := xb.below b2 (by first | omega | (simp [size_drew]; done) | (simp [size_drew]; omega))
          clear xb; have xb := xb_; clear xb_
          have xx_ : Box w2 (w.heap.size + 1 + 1 + 1) #[(.slice xA0 xn0 xc0), (.slice xA1 xn1 xc1), (.slice xA2 xn2 xc2), (.slice xA3 xn3 xc3), (.slice xA4 xn4 xc4), (.slice xA5 xn5 xc5)] 68 := xx.below b2 (by first | omega | (simp [size_drew]; done) | (simp [size_drew]; omega))
          clear xx; have xx := xx_; clear xx_
          have xr_ : Box w2 (w.heap.size + 1 + 1 + 1 + 1) #[.int .i64 0, .int .i64 0] 73 := xr.below b2 (by first | omega | (simp [size_drew]; done) | (simp [size_drew]; omega))
          clear xr; have xr := xr_; clear xr_
          obtain ⟨cxk_0, cxk_1, fxk_0, fxk_1⟩ := xk.two
          have l_xk_0 : w.heap.size < w2.heap.size := by omega
          obtain ⟨cxx_0, cxx_1, cxx_2, cxx_3, cxx_4, cxx_5, fxx_0, fxx_1, fxx_2, fxx_3, fxx_4, fxx_5⟩ := xx.six
          have l_xx_0 : w.heap.size + 1 + 1 + 1 < w2.heap.size := by omega
          go_wp2_with fail
          refine (sl23Form_L kI0 (RdL.b kH) kL1n (RdL.b (ls := [((.slice xA0 xn0 xc0), .ints xL0), ((.slice xA1 xn1 xc1), .ints xL1)]) (RdL.sub xH (by simp))) xL0n xL1n).mono ?_
          rintro e w3 ⟨rfl, b3⟩
          clear cxk_0 cxk_1 fxk_0 fxk_1 l_xk_0 cxx_0 cxx_1 cxx_2 cxx_3 cxx_4 cxx_5 fxx_0 fxx_1 fxx_2 fxx_3 fxx_4 fxx_5 l_xx_0
          have z3 := b3.size
          try simp only [World.size_alloc, World.size_setCell, size_drew] at z3
          have B3 : Below w.heap.size w w3 := Below.t b3
          have xk_ : Box w3 (w.heap.size) #[.int .i64 kI0, (.slice kA1 kn1 kc1)] 33 := xk.below b3 (by first | omega | (simp [size_drew]; done) | (simp [size_drew]; omega))
          clear xk; have xk := xk_; clear xk_
          have xa_ : Box w3 (w.heap.size + 1) #[(.slice aA0 an0 ac0), (.slice aA1 an1 ac1)] 38 := xa.below b3 (by first | omega | (simp [size_drew]; done) | (simp [size_drew]; omega))
          clear xa; have xa := xa_; clear xa_
          have xb_ : Box w3 (w.heap.size + 1 + 1) #[(.slice bA0 bn0 bc0), (.slice bA1 bn1 bc1)] 38 := xb.below b3 (by first | omega | (simp [size_drew]; done) | (simp [size_drew]; omega))
          clear xb; have xb := xb_; clear xb_
          have xx_ : Box w3 (w.heap.size + 1 + 1 + 1) #[(.slice xA0 xn0 xc0), (.slice xA1 xn1 xc1), (.slice xA2 xn2 xc2), (.slice xA3 xn3 xc3), (.slice xA4 xn4 xc4), (.slice xA5 xn5 xc5)] 68 := xx.below b3 (by first | omega | (simp [size_drew]; done) | (simp [size_drew]; omega))
          clear xx; have xx := xx_; clear xx_
          have xr_ : Box w3 (w.heap.size + 1 + 1 + 1 + 1) #[.int .i64 0, .int .i64 0] 73 := xr.below b3 (by first | omega | (simp [size_drew]; done) | (simp [size_drew]; omega))
          clear xr; have xr := xr_; clear xr_
          obtain ⟨cxk_0, cxk_1, fxk_0, fxk_1⟩ := xk.two
          have l_xk_0 : w.heap.size < w3.heap.size := by omega
          obtain ⟨cxx_0, cxx_1, cxx_2, cxx_3, cxx_4, cxx_5, fxx_0, fxx_1, fxx_2, fxx_3, fxx_4, fxx_5⟩ := xx.six
          have l_xx_0 : w.heap.size + 1 + 1 + 1 < w3.heap.size := by omega
          go_wp2_with fail
          refine (sl23Form_L kI0 (RdL.b kH) kL1n (RdL.b (ls := [((.slice xA2 xn2 xc2), .ints xL2), ((.slice xA3 xn3 xc3), .ints xL3)]) (RdL.sub xH (by simp))) xL2n xL3n).mono ?_
          rintro e w4 ⟨rfl, b4⟩
          clear cxk_0 cxk_1 fxk_0 fxk_1 l_xk_0 cxx_0 cxx_1 cxx_2 cxx_3 cxx_4 cxx_5 fxx_0 fxx_1 fxx_2 fxx_3 fxx_4 fxx_5 l_xx_0
          have z4 := b4.size
          try simp only [World.size_alloc, World.size_setCell, size_drew] at z4
          have B4 : Below w.heap.size w w4 := Below.t b4
          have xk_ : Box w4 (w.heap.size) #[.int .i64 kI0, (.slice kA1 kn1 kc1)] 33 := xk.below b4 (by first | omega | (simp [size_drew]; done) | (simp [size_drew]; omega))
          clear xk; have xk := xk_; clear xk_
          have xa_ : Box w4 (w.heap.size + 1) #[(.slice aA0 an0 ac0), (.slice aA1 an1 ac1)] 38 := xa.below b4 (by first | omega | (simp [size_drew]; done) | (simp [size_drew]; omega))
          clear xa; have xa := xa_; clear xa_
          have xb_ : Box w4 (w.heap.size + 1 + 1) #[(.slice bA0 bn0 bc0), (.slice bA1 bn1 bc1)] 38 := xb.below b4 (by first | omega | (simp [size_drew]; done) | (simp [size_drew]; omega))
          clear xb; have xb := xb_; clear xb_
          have xx_ : Box w4 (w.heap.size + 1 + 1 + 1) #[(.slice xA0 xn0 xc0), (.slice xA1 xn1 xc1), (.slice xA2 xn2 xc2), (.slice xA3 xn3 xc3), (.slice xA4 xn4 xc4), (.slice xA5 xn5 xc5)] 68 := xx.below b4 (by first | omega | (simp [size_drew]; done) | (simp [size_drew]; omega))
          clear xx; have xx := xx_; clear xx_
          have xr_ : Box w4 (w.heap.size + 1 + 1 + 1 + 1) #[.int .i64 0, .int .i64 0] 73 := xr.below b4 (by first | omega | (simp [size_drew]; done) | (simp [size_drew]; omega))
          clear xr; have xr := xr_; clear xr_
          obtain ⟨cxk_0, cxk_1, fxk_0, fxk_1⟩ := xk.two
          have l_xk_0 : w.heap.size < w4.heap.size := by omega
          obtain ⟨cxa_0, cxa_1, fxa_0, fxa_1⟩ := xa.two
          have l_xa_0 : w.heap.size + 1 < w4.heap.size := by omega
          obtain ⟨cxb_0, cxb_1, fxb_0, fxb_1⟩ := xb.two
          have l_xb_0 : w.heap.size + 1 + 1 < w4.heap.size := by omega
          obtain ⟨cxx_0, cxx_1, cxx_2, cxx_3, cxx_4, cxx_5, fxx_0, fxx_1, fxx_2, fxx_3, fxx_4, fxx_5⟩ := xx.six
          have l_xx_0 : w.heap.size + 1 + 1 + 1 < w4.heap.size := by omega
          go_wp2_with fail
          clear cxk_0 cxk_1 fxk_0 fxk_1 l_xk_0 cxa_0 cxa_1 fxa_0 fxa_1 l_xa_0 cxb_0 cxb_1 fxb_0 fxb_1 l_xb_0 cxx_0 cxx_1 cxx_2 cxx_3 cxx_4 cxx_5 fxx_0 fxx_1 fxx_2 fxx_3 fxx_4 fxx_5 l_xx_0
          refine wp_region_held_drew (S := fun W => W.cell? ⟨w.heap.size, 0, none⟩ = some (.int .i64 kI0) ∧ W.cell? ⟨w.heap.size, 1, none⟩ = some ((.slice kA1 kn1 kc1)) ∧ W.cell? ⟨w.heap.size + 1, 0, none⟩ = some ((.slice aA0 an0 ac0)) ∧ W.cell? ⟨w.heap.size + 1, 1, none⟩ = some ((.slice aA1 an1 ac1)) ∧ W.cell? ⟨w.heap.size + 1 + 1, 0, none⟩ = some ((.slice bA0 bn0 bc0)) ∧ W.cell? ⟨w.heap.size + 1 + 1, 1, none⟩ = some ((.slice bA1 bn1 bc1)) ∧ W.cell? ⟨w.heap.size + 1 + 1 + 1, 0, none⟩ = some ((.slice xA0 xn0 xc0)) ∧ W.cell? ⟨w.heap.size + 1 + 1 + 1, 1, none⟩ = some ((.slice xA1 xn1 xc1)) ∧ W.cell? ⟨w.heap.size + 1 + 1 + 1, 2, none⟩ = some ((.slice xA2 xn2 xc2)) ∧ W.cell? ⟨w.heap.size + 1 + 1 + 1, 3, none⟩ = some ((.slice xA3 xn3 xc3)) ∧ W.cell? ⟨w.heap.size + 1 + 1 + 1, 4, none⟩ = some ((.slice xA4 xn4 xc4)) ∧ W.cell? ⟨w.heap.size + 1 + 1 + 1, 5, none⟩ = some ((.slice xA5 xn5 xc5))) (by kernel_rfl) ⟨xk.drew.two.1, xk.drew.two.2.1, xa.drew.two.1, xa.drew.two.2.1, xb.drew.two.1, xb.drew.two.2.1, xx.drew.six.1, xx.drew.six.2.1, xx.drew.six.2.2.1, xx.drew.six.2.2.2.1, xx.drew.six.2.2.2.2.1, xx.drew.six.2.2.2.2.2.1⟩ (fun hS => ?_)
          (refine tk 0 hS ?_; (try simp only [Act.put, layA, layB, layC]))
          (refine tk 1 hS ?_; (try simp only [Act.put, layA, layB, layC]))
          (refine tk 2 hS ?_; (try simp only [Act.put, layA, layB, layC]))
          (refine tk 3 hS ?_; (try simp only [Act.put, layA, layB, layC]))
          (refine tk 5 hS ?_; (try simp only [Act.put, layA, layB, layC]))
          (refine tk 6 hS ?_; (try simp only [Act.put, layA, layB, layC]))
          (refine tk 7 hS ?_; (try simp only [Act.put, layA, layB, layC]))
          (refine tk 10 hS ?_; (try simp only [Act.put, layA, layB, layC]))
          (refine tk 11 hS ?_; (try simp only [Act.put, layA, layB, layC]))
          (refine tk 12 hS ?_; (try simp only [Act.put, layA, layB, layC]))
          (refine tk 13 hS ?_; (try simp only [Act.put, layA, layB, layC]))
          (refine tk 15 hS ?_; (try simp only [Act.put, layA, layB, layC]))
          (refine tk 16 hS ?_; (try simp only [Act.put, layA, layB, layC]))
          (refine tk 17 hS ?_; (try simp only [Act.put, layA, layB, layC]))
          refine on 4 ?_
          refine callH (by go_simp; (first | done | with_reducible rfl | exact ⟨rfl, rfl⟩)) ?_
          go_at_call 121
          refine (sl24Value_L kI0 (RdL.b kH) kL1n (RdL.b aH) aL0n aL1n).mono ?_
          rintro e w5 ⟨rfl, b5⟩
          clear hS
          have z5 := Below.size b5
          (try simp only [World.size_alloc, World.size_setCell, size_drew] at z5)
          have B5 : Below w.heap.size w w5 := Below.t b5
          have xk_ : Box w5 (w.heap.size) #[.int .i64 kI0, (.slice kA1 kn1 kc1)] 33 := (Box.b xk.drew b5)
          clear xk; have xk := xk_; clear xk_
          have xa_ : Box w5 (w.heap.size + 1) #[(.slice aA0 an0 ac0), (.slice aA1 an1 ac1)] 38 := (Box.b xa.drew b5)
          clear xa; have xa := xa_; clear xa_
          have xb_ : Box w5 (w.heap.size + 1 + 1) #[(.slice bA0 bn0 bc0), (.slice bA1 bn1 bc1)] 38 := (Box.b xb.drew b5)
          clear xb; have xb := xb_; clear xb_
          have xx_ : Box w5 (w.heap.size + 1 + 1 + 1) #[(.slice xA0 xn0 xc0), (.slice xA1 xn1 xc1), (.slice xA2 xn2 xc2), (.slice xA3 xn3 xc3), (.slice xA4 xn4 xc4), (.slice xA5 xn5 xc5)] 68 := (Box.b xx.drew b5)
          clear xx; have xx := xx_; clear xx_
          have xr_ : Box w5 (w.heap.size + 1 + 1 + 1 + 1) #[.int .i64 0, .int .i64 0] 73 := (Box.b xr.drew b5)
          clear xr; have xr := xr_; clear xr_
          refine ⟨_, rfl, ⟨xk.two.1, xk.two.2.1, xa.two.1, xa.two.2.1, xb.two.1, xb.two.2.1, xx.six.1, xx.six.2.1, xx.six.2.2.1, xx.six.2.2.2.1, xx.six.2.2.2.2.1, xx.six.2.2.2.2.2.1⟩, fun hS => ?_⟩
          (try simp only [Act.put, layA, layB, layC])
          refine on 8 ?_
          refine callH (by go_simp; (first | done | with_reducible rfl | exact ⟨rfl, rfl⟩)) ?_
          go_at_call 121
          refine (sl24Value_L kI0 (RdL.b kH) kL1n (RdL.b (ls := [((.slice xA0 xn0 xc0), .ints xL0), ((.slice xA1 xn1 xc1), .ints xL1)]) (RdL.sub xH (by simp))) xL0n xL1n).mono ?_
          rintro e w6 ⟨rfl, b6⟩
          clear hS
          have z6 := Below.size b6
          (try simp only [World.size_alloc, World.size_setCell, size_drew] at z6)
          have B6 : Below w.heap.size w w6 := Below.t b6
          have xk_ : Box w6 (w.heap.size) #[.int .i64 kI0, (.slice kA1 kn1 kc1)] 33 := (Box.b xk b6)
          clear xk; have xk := xk_; clear xk_
          have xa_ : Box w6 (w.heap.size + 1) #[(.slice aA0 an0 ac0), (.slice aA1 an1 ac1)] 38 := (Box.b xa b6)
          clear xa; have xa := xa_; clear xa_
          have xb_ : Box w6 (w.heap.size + 1 + 1) #[(.slice bA0 bn0 bc0), (.slice bA1 bn1 bc1)] 38 := (Box.b xb b6)
          clear xb; have xb := xb_; clear xb_
          have xx_ : Box w6 (w.heap.size + 1 + 1 + 1) #[(.slice xA0 xn0 xc0), (.slice xA1 xn1 xc1), (.slice xA2 xn2 xc2), (.slice xA3 xn3 xc3), (.slice xA4 xn4 xc4), (.slice xA5 xn5 xc5)] 68 := (Box.b xx b6)
          clear xx; have xx := xx_; clear xx_
          have xr_ : Box w6 (w.heap.size + 1 + 1 + 1 + 1) #[.int .i64 0, .int .i64 0] 73 := (Box.b xr b6)
          clear xr; have xr := xr_; clear xr_
          refine ⟨_, rfl, ⟨xk.two.1, xk.two.2.1, xa.two.1, xa.two.2.1, xb.two.1, xb.two.2.1, xx.six.1, xx.six.2.1, xx.six.2.2.1, xx.six.2.2.2.1, xx.six.2.2.2.2.1, xx.six.2.2.2.2.2.1⟩, fun hS => ?_⟩
          (try simp only [Act.put, layA, layB, layC])
          refine on 9 ?_
          refine callH (by go_simp; (first | done | with_reducible rfl | exact ⟨rfl, rfl⟩)) ?_
          go_at_call 88
          refine (sFSub_any _ _ _ _).mono ?_
          rintro e w_ ⟨rfl, rfl⟩
          refine ⟨_, rfl, hS, fun hS => ?_⟩
          (try simp only [Act.put, layA, layB, layC])
          refine on 14 ?_
          refine callH (by go_simp; (first | done | with_reducible rfl | exact ⟨rfl, rfl⟩)) ?_
          go_at_call 121
          refine (sl24Value_L kI0 (RdL.b kH) kL1n (RdL.b bH) bL0n bL1n).mono ?_
          rintro e w7 ⟨rfl, b7⟩
          clear hS
          have z7 := Below.size b7
          (try simp only [World.size_alloc, World.size_setCell, size_drew] at z7)
          have B7 : Below w.heap.size w w7 := Below.t b7
          have xk_ : Box w7 (w.heap.size) #[.int .i64 kI0, (.slice kA1 kn1 kc1)] 33 := (Box.b xk b7)
          clear xk; have xk := xk_; clear xk_
          have xa_ : Box w7 (w.heap.size + 1) #[(.slice aA0 an0 ac0), (.slice aA1 an1 ac1)] 38 := (Box.b xa b7)
          clear xa; have xa := xa_; clear xa_
          have xb_ : Box w7 (w.heap.size + 1 + 1) #[(.slice bA0 bn0 bc0), (.slice bA1 bn1 bc1)] 38 := (Box.b xb b7)
          clear xb; have xb := xb_; clear xb_
          have xx_ : Box w7 (w.heap.size + 1 + 1 + 1) #[(.slice xA0 xn0 xc0), (.slice xA1 xn1 xc1), (.slice xA2 xn2 xc2), (.slice xA3 xn3 xc3), (.slice xA4 xn4 xc4), (.slice xA5 xn5 xc5)] 68 := (Box.b xx b7)
          clear xx; have xx := xx_; clear xx_
          have xr_ : Box w7 (w.heap.size + 1 + 1 + 1 + 1) #[.int .i64 0, .int .i64 0] 73 := (Box.b xr b7)
          clear xr; have xr := xr_; clear xr_
          refine ⟨_, rfl, ⟨xk.two.1, xk.two.2.1, xa.two.1, xa.two.2.1, xb.two.1, xb.two.2.1, xx.six.1, xx.six.2.1, xx.six.2.2.1, xx.six.2.2.2.1, xx.six.2.2.2.2.1, xx.six.2.2.2.2.2.1⟩, fun hS => ?_⟩
          (try simp only [Act.put, layA, layB, layC])
          refine on 18 ?_
          refine callH (by go_simp; (first | done | with_reducible rfl | exact ⟨rfl, rfl⟩)) ?_
          go_at_call 121
          refine (sl24Value_L kI0 (RdL.b kH) kL1n (RdL.b (ls := [((.slice xA2 xn2 xc2), .ints xL2), ((.slice xA3 xn3 xc3), .ints xL3)]) (RdL.sub xH (by simp))) xL2n xL3n).mono ?_
          rintro e w8 ⟨rfl, b8⟩
          clear hS
          have z8 := Below.size b8
          (try simp only [World.size_alloc, World.size_setCell, size_drew] at z8)
          have B8 : Below w.heap.size w w8 := Below.t b8
          have xk_ : Box w8 (w.heap.size) #[.int .i64 kI0, (.slice kA1 kn1 kc1)] 33 := (Box.b xk b8)
          clear xk; have xk := xk_; clear xk_
          have xa_ : Box w8 (w.heap.size + 1) #[(.slice aA0 an0 ac0), (.slice aA1 an1 ac1)] 38 := (Box.b xa b8)
          clear xa; have xa := xa_; clear xa_
          have xb_ : Box w8 (w.heap.size + 1 + 1) #[(.slice bA0 bn0 bc0), (.slice bA1 bn1 bc1)] 38 := (Box.b xb b8)
          clear xb; have xb := xb_; clear xb_
          have xx_ : Box w8 (w.heap.size + 1 + 1 + 1) #[(.slice xA0 xn0 xc0), (.slice xA1 xn1 xc1), (.slice xA2 xn2 xc2), (.slice xA3 xn3 xc3), (.slice xA4 xn4 xc4), (.slice xA5 xn5 xc5)] 68 := (Box.b xx b8)
          clear xx; have xx := xx_; clear xx_
          have xr_ : Box w8 (w.heap.size + 1 + 1 + 1 + 1) #[.int .i64 0, .int .i64 0] 73 := (Box.b xr b8)
          clear xr; have xr := xr_; clear xr_
          refine ⟨_, rfl, ⟨xk.two.1, xk.two.2.1, xa.two.1, xa.two.2.1, xb.two.1, xb.two.2.1, xx.six.1, xx.six.2.1, xx.six.2.2.1, xx.six.2.2.2.1, xx.six.2.2.2.2.1, xx.six.2.2.2.2.2.1⟩, fun hS => ?_⟩
          (try simp only [Act.put, layA, layB, layC])
          refine on 19 ?_
          refine callH (by go_simp; (first | done | with_reducible rfl | exact ⟨rfl, rfl⟩)) ?_
          go_at_call 88
          refine (sFSub_any _ _ _ _).mono ?_
          rintro e w_ ⟨rfl, rfl⟩
          refine ⟨_, rfl, hS, fun hS => ?_⟩
          (try simp only [Act.put, layA, layB, layC])
          (refine tk 20 hS ?_; (try simp only [Act.put, layA, layB, layC]))
          refine on 21 ?_
          obtain ⟨cxr_0, cxr_1, fxr_0, fxr_1⟩ := xr.two
          refine skipH (by go_simp; (first | done | with_reducible rfl | exact ⟨rfl, rfl⟩)) ?_ (fun hS_ => ?_)
          · exact ⟨((xk.far (by omega)).far (by omega)).two.1, ((xk.far (by omega)).far (by omega)).two.2.1, ((xa.far (by omega)).far (by omega)).two.1, ((xa.far (by omega)).far (by omega)).two.2.1, ((xb.far (by omega)).far (by omega)).two.1, ((xb.far (by omega)).far (by omega)).two.2.1, ((xx.far (by omega)).far (by omega)).six.1, ((xx.far (by omega)).far (by omega)).six.2.1, ((xx.far (by omega)).far (by omega)).six.2.2.1, ((xx.far (by omega)).far (by omega)).six.2.2.2.1, ((xx.far (by omega)).far (by omega)).six.2.2.2.2.1, ((xx.far (by omega)).far (by omega)).six.2.2.2.2.2.1⟩
          clear cxr_0 cxr_1 fxr_0 fxr_1
          clear hS
          have hS := hS_
          clear hS_
          (try simp only [Act.put, layA, layB, layC])
          (refine tk 22 hS ?_; (try simp only [Act.put, layA, layB, layC]))
          clear hS
          refine wpAnyH_done (by kernel_rfl) ?_ _
          obtain ⟨cxr_0, cxr_1, fxr_0, fxr_1⟩ := xr.two
          have l_xr_0 : w.heap.size + 1 + 1 + 1 + 1 < w8.heap.size := by omega
          go_wp2
          refine bodyPost_ret (v := .tuple #[.agg #[.int .i64 (fsub kI0 (fsum kI0 aL0) (fsum kI0 xL0)), .int .i64 (fsub kI0 (fsum kI0 bL0) (fsum kI0 xL2))], .bool true]) ?_ rfl ⟨by rw [toD_yes HO, toE_yes HO, HO], ?_⟩
          · simp [results, Try.results63, go_sem, cxr_0, cxr_1, fxr_0, fxr_1, l_xr_0]
          · repeat (with_reducible (first | assumption | exact Below.refl _ _ | refine Below.alloc ?_ (by first | omega | (simp; done) | (simp; omega)) _ | refine Below.setCell ?_ (by first | omega | (simp; done) | (simp; omega)) _ | refine Below.drew ?_ | refine below_drewN ?_ _))
set_option maxRecDepth 100000 in
set_option maxHeartbeats 2000000 in
theorem iTripleOpen_L {kA1 : Option Addr} {kn1 kc1 : Nat} {kL1 : List Int} {aA0 : Option Addr} {an0 ac0 : Nat} {aL0 : List Int} {aA1 : Option Addr} {an1 ac1 : Nat} {aL1 : List Int} {bA0 : Option Addr} {bn0 bc0 : Nat} {bL0 : List Int} {bA1 : Option Addr} {bn1 bc1 : Nat} {bL1 : List Int} {xA0 : Option Addr} {xn0 xc0 : Nat} {xL0 : List Int} {xA1 : Option Addr} {xn1 xc1 : Nat} {xL1 : List Int} {xA2 : Option Addr} {xn2 xc2 : Nat} {xL2 : List Int} {xA3 : Option Addr} {xn3 xc3 : Nat} {xL3 : List Int} {xA4 : Option Addr} {xn4 xc4 : Nat} {xL4 : List Int} {xA5 : Option Addr} {xn5 xc5 : Nat} {xL5 : List Int} {w : World} (kI0 : Int) (kH : RdL w [((.slice kA1 kn1 kc1), .ints kL1)]) (kL1n : kL1.length ≤ 1048576) (aH : RdL w [((.slice aA0 an0 ac0), .ints aL0), ((.slice aA1 an1 ac1), .ints aL1)]) (aL0n : aL0.length ≤ 1048576) (aL1n : aL1.length ≤ 1048576) (bH : RdL w [((.slice bA0 bn0 bc0), .ints bL0), ((.slice bA1 bn1 bc1), .ints bL1)]) (bL0n : bL0.length ≤ 1048576) (bL1n : bL1.length ≤ 1048576) (xH : RdL w [((.slice xA0 xn0 xc0), .ints xL0), ((.slice xA1 xn1 xc1), .ints xL1), ((.slice xA2 xn2 xc2), .ints xL2), ((.slice xA3 xn3 xc3), .ints xL3), ((.slice xA4 xn4 xc4), .ints xL4), ((.slice xA5 xn5 xc5), .ints xL5)]) (xL0n : xL0.length ≤ 1048576) (xL1n : xL1.length ≤ 1048576) (xL2n : xL2.length ≤ 1048576) (xL3n : xL3.length ≤ 1048576) (xL4n : xL4.length ≤ 1048576) (xL5n : xL5.length ≤ 1048576) :
    Calls Try.prog 64 #[.agg #[.int .i64 kI0, (.slice kA1 kn1 kc1)], .agg #[(.slice aA0 an0 ac0), (.slice aA1 an1 ac1)], .agg #[(.slice bA0 bn0 bc0), (.slice bA1 bn1 bc1)], .agg #[(.slice xA0 xn0 xc0), (.slice xA1 xn1 xc1), (.slice xA2 xn2 xc2), (.slice xA3 xn3 xc3), (.slice xA4 xn4 xc4), (.slice xA5 xn5 xc5)]] w fun e w' => e = .returned (.tuple #[.agg #[.int .i64 (toD kI0 kL1 aL0 aL1 bL0 bL1 xL0 xL1 xL2 xL3), .int .i64 (toE kI0 kL1 aL0 aL1 bL0 bL1 xL0 xL1 xL2 xL3)], .bool (form4 kI0 kL1 aL0 aL1 bL0 bL1 xL0 xL1 xL2 xL3)]) ∧ Below w.heap.size w w' := by
  have kL1i : Ints w kA1 kn1 kL1 := Rd.toInts (kH ((.slice kA1 kn1 kc1), .ints kL1) (by simp))
  have kL1l := Lib.hid kL1i.len
  have kL1m : kn1 ≤ 1048576 := by rw [← kL1l.out]; exact kL1n
  have aL0i : Ints w aA0 an0 aL0 := Rd.toInts (aH ((.slice aA0 an0 ac0), .ints aL0) (by simp))
  have aL0l := Lib.hid aL0i.len
  have aL0m : an0 ≤ 1048576 := by rw [← aL0l.out]; exact aL0n
  have aL1i : Ints w aA1 an1 aL1 := Rd.toInts (aH ((.slice aA1 an1 ac1), .ints aL1) (by simp))
  have aL1l := Lib.hid aL1i.len
  have aL1m : an1 ≤ 1048576 := by rw [← aL1l.out]; exact aL1n
  have bL0i : Ints w bA0 bn0 bL0 := Rd.toInts (bH ((.slice bA0 bn0 bc0), .ints bL0) (by simp))
  have bL0l := Lib.hid bL0i.len
  have bL0m : bn0 ≤ 1048576 := by rw [← bL0l.out]; exact bL0n
  have bL1i : Ints w bA1 bn1 bL1 := Rd.toInts (bH ((.slice bA1 bn1 bc1), .ints bL1) (by simp))
  have bL1l := Lib.hid bL1i.len
  have bL1m : bn1 ≤ 1048576 := by rw [← bL1l.out]; exact bL1n
  have xL0i : Ints w xA0 xn0 xL0 := Rd.toInts (xH ((.slice xA0 xn0 xc0), .ints xL0) (by simp))
  have xL0l := Lib.hid xL0i.len
  have xL0m : xn0 ≤ 1048576 := by rw [← xL0l.out]; exact xL0n
  have xL1i : Ints w xA1 xn1 xL1 := Rd.toInts (xH ((.slice xA1 xn1 xc1), .ints xL1) (by simp))
  have xL1l := Lib.hid xL1i.len
  have xL1m : xn1 ≤ 1048576 := by rw [← xL1l.out]; exact xL1n
  have xL2i : Ints w xA2 xn2 xL2 := Rd.toInts (xH ((.slice xA2 xn2 xc2), .ints xL2) (by simp))
  have xL2l := Lib.hid xL2i.len
  have xL2m : xn2 ≤ 1048576 := by rw [← xL2l.out]; exact xL2n
  have xL3i : Ints w xA3 xn3 xL3 := Rd.toInts (xH ((.slice xA3 xn3 xc3), .ints xL3) (by simp))
  have xL3l := Lib.hid xL3i.len
  have xL3m : xn3 ≤ 1048576 := by rw [← xL3l.out]; exact xL3n
  have xL4i : Ints w xA4 xn4 xL4 := Rd.toInts (xH ((.slice xA4 xn4 xc4), .ints xL4) (by simp))
  have xL4l := Lib.hid xL4i.len
  have xL4m : xn4 ≤ 1048576 := by rw [← xL4l.out]; exact xL4n
  have xL5i : Ints w xA5 xn5 xL5 := Rd.toInts (xH ((.slice xA5 xn5 xc5), .ints xL5) (by simp))
  have xL5l := Lib.hid xL5i.len
  have xL5m : xn5 ≤ 1048576 := by rw [← xL5l.out]; exact xL5n
  cases HO : form4 kI0 kL1 aL0 aL1 bL0 bL1 xL0 xL1 xL2 xL3 with
  | false =>
    have k9 : isFormB kI0 kL1 [(aL0, aL1), (bL0, bL1), (xL0, xL1), (xL2, xL3)] = false := by rw [isFormB4]; exact HO
    go_enter Try.func64, Try.ntmps64
    go_wp2_with fail
    refine (isForm_any kI0 (RdL.b kH) kL1n _ 4 _ [(aL0, aL1), (bL0, bL1), (xL0, xL1), (xL2, xL3)] (AuthsAt.mk4 aL0i.b aL0m aL1i.b aL1m bL0i.b bL0m bL1i.b bL1m xL0i.b xL0m xL1i.b xL1m xL2i.b xL2m xL3i.b xL3m (by simp)) (by omega)).mono ?_
    rintro e w1 ⟨rfl, b1⟩
    have z1 := b1.size
    try simp only [World.size_alloc, World.size_setCell, size_drew] at z1
    have B1 : Below w.heap.size w w1 := Below.t b1
    have xk_ : Box w1 (w.heap.size) #[.int .i64 kI0, (.slice kA1 kn1 kc1)] 33 := ((((((Box.new (g := w.heap.size) _ #[.int .i64 kI0, (.slice kA1 kn1 kc1)] 33 (by simp)).alloc _).alloc _).alloc _).alloc _).alloc _).below b1 (by first | omega | (simp [size_drew]; done) | (simp [size_drew]; omega))
    have xk := xk_; clear xk_
    have xa_ : Box w1 (w.heap.size + 1) #[(.slice aA0 an0 ac0), (.slice aA1 an1 ac1)] 38 := (((((Box.new (g := w.heap.size + 1) _ #[(.slice aA0 an0 ac0), (.slice aA1 an1 ac1)] 38 (by simp)).alloc _).alloc _).alloc _).alloc _).below b1 (by first | omega | (simp [size_drew]; done) | (simp [size_drew]; omega))
    have xa := xa_; clear xa_
    have xb_ : Box w1 (w.heap.size + 1 + 1) #[(.slice bA0 bn0 bc0), (.slice bA1 bn1 bc1)] 38 := ((((Box.new (g := w.heap.size + 1 + 1) _ #[(.slice bA0 bn0 bc0), (.slice bA1 bn1 bc1)] 38 (by simp)).alloc _).alloc _).alloc _).below b1 (by first | omega | (simp [size_drew]; done) | (simp [size_drew]; omega))
    have xb := xb_; clear xb_
    have xx_ : Box w1 (w.heap.size + 1 + 1 + 1) #[(.slice xA0 xn0 xc0), (.slice xA1 xn1 xc1), (.slice xA2 xn2 xc2), (.slice xA3 xn3 xc3), (.slice xA4 xn4 xc4), (.slice xA5 xn5 xc5)] 68 := (((Box.new (g := w.heap.size + 1 + 1 + 1) _ #[(.slice xA0 xn0 xc0), (.slice xA1 xn1 xc1), (.slice xA2 xn2 xc2), (.slice xA3 xn3 xc3), (.slice xA4 xn4 xc4), (.slice xA5 xn5 xc5)] 68 (by simp)).alloc _).alloc _).below b1 (by first | omega | (simp [size_drew]; done) | (simp [size_drew]; omega))
    have xx := xx_; clear xx_
    have xr_ : Box w1 (w.heap.size + 1 + 1 + 1 + 1) #[.int .i64 0, .int .i64 0] 73 := ((Box.new (g := w.heap.size + 1 + 1 + 1 + 1) _ #[.int .i64 0, .int .i64 0] 73 (by simp)).alloc _).below b1 (by first | omega | (simp [size_drew]; done) | (simp [size_drew]; omega))
    have xr := xr_; clear xr_
    have xlit_ : Box w1 (w.heap.size + 1 + 1 + 1 + 1 + 1) #[(.slice aA0 an0 ac0), (.slice aA1 an1 ac1), (.slice bA0 bn0 bc0), (.slice bA1 bn1 bc1), (.slice xA0 xn0 xc0), (.slice xA1 xn1 xc1), (.slice xA2 xn2 xc2), (.slice xA3 xn3 xc3)] 38 := (Box.new (g := w.heap.size + 1 + 1 + 1 + 1 + 1) _ #[(.slice aA0 an0 ac0), (.slice aA1 an1 ac1), (.slice bA0 bn0 bc0), (.slice bA1 bn1 bc1), (.slice xA0 xn0 xc0), (.slice xA1 xn1 xc1), (.slice xA2 xn2 xc2), (.slice xA3 xn3 xc3)] 38 (by simp)).below b1 (by first | omega | (simp [size_drew]; done) | (simp [size_drew]; omega))
    have xlit := xlit_; clear xlit_
    obtain ⟨cxr_0, cxr_1, fxr_0, fxr_1⟩ := xr.two
    have l_xr_0 : w.heap.size + 1 + 1 + 1 + 1 < w1.heap.size := by omega
    go_wp2
    refine bodyPost_ret (v := .tuple #[.agg #[.int .i64 (0), .int .i64 (0)], .bool false]) ?_ rfl ⟨by rw [toD_no HO, toE_no HO], ?_⟩
    · simp [results, Try.results64, go_sem, cxr_0, cxr_1, fxr_0, fxr_1, l_xr_0]
    · repeat (with_reducible (first | assumption | exact Below.refl _ _ | refine Below.alloc ?_ (by first | omega | (simp; done) | (simp; omega)) _ | refine Below.setCell ?_ (by first | omega | (simp; done) | (simp; omega)) _ | refine Below.drew ?_ | refine below_drewN ?_ _))
  | true =>
    have k9 : isFormB kI0 kL1 [(aL0, aL1), (bL0, bL1), (xL0, xL1), (xL2, xL3)] = true := by rw [isFormB4]; exact HO
    go_enter Try.func64, Try.ntmps64
    go_wp2_with fail
    refine (isForm_any kI0 (RdL.b kH) kL1n _ 4 _ [(aL0, aL1), (bL0, bL1), (xL0, xL1), (xL2, xL3)] (AuthsAt.mk4 aL0i.b aL0m aL1i.b aL1m bL0i.b bL0m bL1i.b bL1m xL0i.b xL0m xL1i.b xL1m xL2i.b xL2m xL3i.b xL3m (by simp)) (by omega)).mono ?_
    rintro e w1 ⟨rfl, b1⟩
    have z1 := b1.size
    try simp only [World.size_alloc, World.size_setCell, size_drew] at z1
    have B1 : Below w.heap.size w w1 := Below.t b1
    have xk_ : Box w1 (w.heap.size) #[.int .i64 kI0, (.slice kA1 kn1 kc1)] 33 := ((((((Box.new (g := w.heap.size) _ #[.int .i64 kI0, (.slice kA1 kn1 kc1)] 33 (by simp)).alloc _).alloc _).alloc _).alloc _).alloc _).below b1 (by first | omega | (simp [size_drew]; done) | (simp [size_drew]; omega))
    have xk := xk_; clear xk_
    have xa_ : Box w1 (w.heap.size + 1) #[(.slice aA0 an0 ac0), (.slice aA1 an1 ac1)] 38 := (((((Box.new (g := w.heap.size + 1) _ #[(.slice aA0 an0 ac0), (.slice aA1 an1 ac1)] 38 (by simp)).alloc _).alloc _).alloc _).alloc _).below b1 (by first | omega | (simp [size_drew]; done) | (simp [size_drew]; omega))
    have xa := xa_; clear xa_
    have xb_ : Box w1 (w.heap.size + 1 + 1) #[(.slice bA0 bn0 bc0), (.slice bA1 bn1 bc1)] 38 := ((((Box.new (g := w.heap.size + 1 + 1) _ #[(.slice bA0 bn0 bc0), (.slice bA1 bn1 bc1)] 38 (by simp)).alloc _).alloc _).alloc _).below b1 (by first | omega | (simp [size_drew]; done) | (simp [size_drew]; omega))
    have xb := xb_; clear xb_
    have xx_ : Box w1 (w.heap.size + 1 + 1 + 1) #[(.slice xA0 xn0 xc0), (.slice xA1 xn1 xc1), (.slice xA2 xn2 xc2), (.slice xA3 xn3 xc3), (.slice xA4 xn4 xc4), (.slice xA5 xn5 xc5)] 68 := (((Box.new (g := w.heap.size + 1 + 1 + 1) _ #[(.slice xA0 xn0 xc0), (.slice xA1 xn1 xc1), (.slice xA2 xn2 xc2), (.slice xA3 xn3 xc3), (.slice xA4 xn4 xc4), (.slice xA5 xn5 xc5)] 68 (by simp)).alloc _).alloc _).below b1 (by first | omega | (simp [size_drew]; done) | (simp [size_drew]; omega))
    have xx := xx_; clear xx_
    have xr_ : Box w1 (w.heap.size + 1 + 1 + 1 + 1) #[.int .i64 0, .int .i64 0] 73 := ((Box.new (g := w.heap.size + 1 + 1 + 1 + 1) _ #[.int .i64 0, .int .i64 0] 73 (by simp)).alloc _).below b1 (by first | omega | (simp [size_drew]; done) | (simp [size_drew]; omega))
    have xr := xr_; clear xr_
    have xlit_ : Box w1 (w.heap.size + 1 + 1 + 1 + 1 + 1) #[(.slice aA0 an0 ac0), (.slice aA1 an1 ac1), (.slice bA0 bn0 bc0), (.slice bA1 bn1 bc1), (.slice xA0 xn0 xc0), (.slice xA1 xn1 xc1), (.slice xA2 xn2 xc2), (.slice xA3 xn3 xc3)] 38 := (Box.new (g := w.heap.size + 1 + 1 + 1 + 1 + 1) _ #[(.slice aA0 an0 ac0), (.slice aA1 an1 ac1), (.slice bA0 bn0 bc0), (.slice bA1 bn1 bc1), (.slice xA0 xn0 xc0), (.slice xA1 xn1 xc1), (.slice xA2 xn2 xc2), (.slice xA3 xn3 xc3)] 38 (by simp)).below b1 (by first | omega | (simp [size_drew]; done) | (simp [size_drew]; omega))
    have xlit := xlit_; clear xlit_
    obtain ⟨cxk_0, cxk_1, fxk_0, fxk_1⟩ := xk.two
    have l_xk_0 : w.heap.size < w1.heap.size := by omega
    obtain ⟨cxa_0, cxa_1, fxa_0, fxa_1⟩ := xa.two
    have l_xa_0 : w.heap.size + 1 < w1.heap.size := by omega
    obtain ⟨cxb_0, cxb_1, fxb_0, fxb_1⟩ := xb.two
    have l_xb_0 : w.heap.size + 1 + 1 < w1.heap.size := by omega
    obtain ⟨cxx_0, cxx_1, cxx_2, cxx_3, cxx_4, cxx_5, fxx_0, fxx_1, fxx_2, fxx_3, fxx_4, fxx_5⟩ := xx.six
    have l_xx_0 : w.heap.size + 1 + 1 + 1 < w1.heap.size := by omega
    go_wp2_with fail
    clear cxk_0 cxk_1 fxk_0 fxk_1 l_xk_0 cxa_0 cxa_1 fxa_0 fxa_1 l_xa_0 cxb_0 cxb_1 fxb_0 fxb_1 l_xb_0 cxx_0 cxx_1 cxx_2 cxx_3 cxx_4 cxx_5 fxx_0 fxx_1 fxx_2 fxx_3 fxx_4 fxx_5 l_xx_0
    refine wp_region_held_drew (S := fun W => W.cell? ⟨w.heap.size, 0, none⟩ = some (.int .i64 kI0) ∧ W.cell? ⟨w.heap.size, 1, none⟩ = some ((.slice kA1 kn1 kc1)) ∧ W.cell? ⟨w.heap.size + 1, 0, none⟩ = some ((.slice aA0 an0 ac0)) ∧ W.cell? ⟨w.heap.size + 1, 1, none⟩ = some ((.slice aA1 an1 ac1)) ∧ W.cell? ⟨w.heap.size + 1 + 1, 0, none⟩ = some ((.slice bA0 bn0 bc0)) ∧ W.cell? ⟨w.heap.size + 1 + 1, 1, none⟩ = some ((.slice bA1 bn1 bc1)) ∧ W.cell? ⟨w.heap.size + 1 + 1 + 1, 0, none⟩ = some ((.slice xA0 xn0 xc0)) ∧ W.cell? ⟨w.heap.size + 1 + 1 + 1, 1, none⟩ = some ((.slice xA1 xn1 xc1)) ∧ W.cell? ⟨w.heap.size + 1 + 1 + 1, 2, none⟩ = some ((.slice xA2 xn2 xc2)) ∧ W.cell? ⟨w.heap.size + 1 + 1 + 1, 3, none⟩ = some ((.slice xA3 xn3 xc3)) ∧ W.cell? ⟨w.heap.size + 1 + 1 + 1, 4, none⟩ = some ((.slice xA4 xn4 xc4)) ∧ W.cell? ⟨w.heap.size + 1 + 1 + 1, 5, none⟩ = some ((.slice xA5 xn5 xc5))) (by kernel_rfl) ⟨xk.drew.two.1, xk.drew.two.2.1, xa.drew.two.1, xa.drew.two.2.1, xb.drew.two.1, xb.drew.two.2.1, xx.drew.six.1, xx.drew.six.2.1, xx.drew.six.2.2.1, xx.drew.six.2.2.2.1, xx.drew.six.2.2.2.2.1, xx.drew.six.2.2.2.2.2.1⟩ (fun hS => ?_)
    (refine tk 0 hS ?_; (try simp only [Act.put, layA, layB, layC]))
    (refine tk 1 hS ?_; (try simp only [Act.put, layA, layB, layC]))
    (refine tk 2 hS ?_; (try simp only [Act.put, layA, layB, layC]))
    (refine tk 3 hS ?_; (try simp only [Act.put, layA, layB, layC]))
    (refine tk 5 hS ?_; (try simp only [Act.put, layA, layB, layC]))
    (refine tk 6 hS ?_; (try simp only [Act.put, layA, layB, layC]))
    (refine tk 7 hS ?_; (try simp only [Act.put, layA, layB, layC]))
    (refine tk 10 hS ?_; (try simp only [Act.put, layA, layB, layC]))
    (refine tk 11 hS ?_; (try simp only [Act.put, layA, layB, layC]))
    (refine tk 12 hS ?_; (try simp only [Act.put, layA, layB, layC]))
    (refine tk 13 hS ?_; (try simp only [Act.put, layA, layB, layC]))
    (refine tk 15 hS ?_; (try simp only [Act.put, layA, layB, layC]))
    (refine tk 16 hS ?_; (try simp only [Act.put, layA, layB, layC]))
    (refine tk 17 hS ?_; (try simp only [Act.put, layA, layB, layC]))
    refine on 4 ?_
    refine callH (by go_simp; (first | done | with_reducible rfl | exact ⟨rfl, rfl⟩)) ?_
    go_at_call 109
    refine (ivalueIn_L kI0 (RdL.b kH) kL1n (RdL.b aH) aL0n aL1n).mono ?_
    rintro e w2 ⟨rfl, b2⟩
    clear hS
    have z2 := Below.size b2
    (try simp only [World.size_alloc, World.size_setCell, size_drew] at z2)
    have B2 : Below w.heap.size w w2 := Below.t b2
    have xk_ : Box w2 (w.heap.size) #[.int .i64 kI0, (.slice kA1 kn1 kc1)] 33 := (Box.b xk.drew b2)
    clear xk; have xk := xk_; clear xk_
    have xa_ : Box w2 (w.heap.size + 1) #[(.slice aA0 an0 ac0), (.slice aA1 an1 ac1)] 38 := (Box.b xa.drew b2)
    clear xa; have xa := xa_; clear xa_
    have xb_ : Box w2 (w.heap.size + 1 + 1) #[(.slice bA0 bn0 bc0), (.slice bA1 bn1 bc1)] 38 := (Box.b xb.drew b2)
    clear xb; have xb := xb_; clear xb_
    have xx_ : Box w2 (w.heap.size + 1 + 1 + 1) #[(.slice xA0 xn0 xc0), (.slice xA1 xn1 xc1), (.slice xA2 xn2 xc2), (.slice xA3 xn3 xc3), (.slice xA4 xn4 xc4), (.slice xA5 xn5 xc5)] 68 := (Box.b xx.drew b2)
    clear xx; have xx := xx_; clear xx_
    have xr_ : Box w2 (w.heap.size + 1 + 1 + 1 + 1) #[.int .i64 0, .int .i64 0] 73 := (Box.b xr.drew b2)
    clear xr; have xr := xr_; clear xr_
    refine ⟨_, rfl, ⟨xk.two.1, xk.two.2.1, xa.two.1, xa.two.2.1, xb.two.1, xb.two.2.1, xx.six.1, xx.six.2.1, xx.six.2.2.1, xx.six.2.2.2.1, xx.six.2.2.2.2.1, xx.six.2.2.2.2.2.1⟩, fun hS => ?_⟩
    (try simp only [Act.put, layA, layB, layC])
    refine on 8 ?_
    refine callH (by go_simp; (first | done | with_reducible rfl | exact ⟨rfl, rfl⟩)) ?_
    go_at_call 109
    refine (ivalueIn_L kI0 (RdL.b kH) kL1n (RdL.b (ls := [((.slice xA0 xn0 xc0), .ints xL0), ((.slice xA1 xn1 xc1), .ints xL1)]) (RdL.sub xH (by simp))) xL0n xL1n).mono ?_
    rintro e w3 ⟨rfl, b3⟩
    clear hS
    have z3 := Below.size b3
    (try simp only [World.size_alloc, World.size_setCell, size_drew] at z3)
    have B3 : Below w.heap.size w w3 := Below.t b3
    have xk_ : Box w3 (w.heap.size) #[.int .i64 kI0, (.slice kA1 kn1 kc1)] 33 := (Box.b xk b3)
    clear xk; have xk := xk_; clear xk_
    have xa_ : Box w3 (w.heap.size + 1) #[(.slice aA0 an0 ac0), (.slice aA1 an1 ac1)] 38 := (Box.b xa b3)
    clear xa; have xa := xa_; clear xa_
    have xb_ : Box w3 (w.heap.size + 1 + 1) #[(.slice bA0 bn0 bc0), (.slice bA1 bn1 bc1)] 38 := (Box.b xb b3)
    clear xb; have xb := xb_; clear xb_
    have xx_ : Box w3 (w.heap.size + 1 + 1 + 1) #[(.slice xA0 xn0 xc0), (.slice xA1 xn1 xc1), (.slice xA2 xn2 xc2), (.slice xA3 xn3 xc3), (.slice xA4 xn4 xc4), (.slice xA5 xn5 xc5)] 68 := (Box.b xx b3)
    clear xx; have xx := xx_; clear xx_
    have xr_ : Box w3 (w.heap.size + 1 + 1 + 1 + 1) #[.int .i64 0, .int .i64 0] 73 := (Box.b xr b3)
    clear xr; have xr := xr_; clear xr_
    refine ⟨_, rfl, ⟨xk.two.1, xk.two.2.1, xa.two.1, xa.two.2.1, xb.two.1, xb.two.2.1, xx.six.1, xx.six.2.1, xx.six.2.2.1, xx.six.2.2.2.1, xx.six.2.2.2.2.1, xx.six.2.2.2.2.2.1⟩, fun hS => ?_⟩
    (try simp only [Act.put, layA, layB, layC])
    refine on 9 ?_
    refine callH (by go_simp; (first | done | with_reducible rfl | exact ⟨rfl, rfl⟩)) ?_
    go_at_call 122
    refine (iFSub_any _ _ _ _).mono ?_
    rintro e w4 ⟨rfl, b4⟩
    clear hS
    have z4 := Below.size b4
    (try simp only [World.size_alloc, World.size_setCell, size_drew] at z4)
    have B4 : Below w.heap.size w w4 := Below.t b4
    have xk_ : Box w4 (w.heap.size) #[.int .i64 kI0, (.slice kA1 kn1 kc1)] 33 := (Box.b xk b4)
    clear xk; have xk := xk_; clear xk_
    have xa_ : Box w4 (w.heap.size + 1) #[(.slice aA0 an0 ac0), (.slice aA1 an1 ac1)] 38 := (Box.b xa b4)
    clear xa; have xa := xa_; clear xa_
    have xb_ : Box w4 (w.heap.size + 1 + 1) #[(.slice bA0 bn0 bc0), (.slice bA1 bn1 bc1)] 38 := (Box.b xb b4)
    clear xb; have xb := xb_; clear xb_
    have xx_ : Box w4 (w.heap.size + 1 + 1 + 1) #[(.slice xA0 xn0 xc0), (.slice xA1 xn1 xc1), (.slice xA2 xn2 xc2), (.slice xA3 xn3 xc3), (.slice xA4 xn4 xc4), (.slice xA5 xn5 xc5)] 68 := (Box.b xx b4)
    clear xx; have xx := xx_; clear xx_
    have xr_ : Box w4 (w.heap.size + 1 + 1 + 1 + 1) #[.int .i64 0, .int .i64 0] 73 := (Box.b xr b4)
    clear xr; have xr := xr_; clear xr_
    refine ⟨_, rfl, ⟨xk.two.1, xk.two.2.1, xa.two.1, xa.two.2.1, xb.two.1, xb.two.2.1, xx.six.1, xx.six.2.1, xx.six.2.2.1, xx.six.2.2.2.1, xx.six.2.2.2.2.1, xx.six.2.2.2.2.2.1⟩, fun hS => ?_⟩
    (try simp only [Act.put, layA, layB, layC])
    refine on 14 ?_
    refine callH (by go_simp; (first | done | with_reducible rfl | exact ⟨rfl, rfl⟩)) ?_
    go_at_call 109
    refine (ivalueIn_L kI0 (RdL.b kH) kL1n (RdL.b bH) bL0n bL1n).mono ?_
    rintro e w5 ⟨rfl, b5⟩
    clear hS
    have z5 := Below.size b5
    (try simp only [World.size_alloc, World.size_setCell, size_drew] at z5)
    have B5 : Below w.heap.size w w5 := Below.t b5
    have xk_ : Box w5 (w.heap.size) #[.int .i64 kI0, (.slice kA1 kn1 kc1)] 33 := (Box.b xk b5)
    clear xk; have xk := xk_; clear xk_
    have xa_ : Box w5 (w.heap.size + 1) #[(.slice aA0 an0 ac0), (.slice aA1 an1 ac1)] 38 := (Box.b xa b5)
    clear xa; have xa := xa_; clear xa_
    have xb_ : Box w5 (w.heap.size + 1 + 1) #[(.slice bA0 bn0 bc0), (.slice bA1 bn1 bc1)] 38 := (Box.b xb b5)
    clear xb; have xb := xb_; clear xb_
    have xx_ : Box w5 (w.heap.size + 1 + 1 + 1) #[(.slice xA0 xn0 xc0), (.slice xA1 xn1 xc1), (.slice xA2 xn2 xc2), (.slice xA3 xn3 xc3), (.slice xA4 xn4 xc4), (.slice xA5 xn5 xc5)] 68 := (Box.b xx b5)
    clear xx; have xx := xx_; clear xx_
    have xr_ : Box w5 (w.heap.size + 1 + 1 + 1 + 1) #[.int .i64 0, .int .i64 0] 73 := (Box.b xr b5)
    clear xr; have xr := xr_; clear xr_
    refine ⟨_, rfl, ⟨xk.two.1, xk.two.2.1, xa.two.1, xa.two.2.1, xb.two.1, xb.two.2.1, xx.six.1, xx.six.2.1, xx.six.2.2.1, xx.six.2.2.2.1, xx.six.2.2.2.2.1, xx.six.2.2.2.2.2.1⟩, fun hS => ?_⟩
    (try simp only [Act.put, layA, layB, layC])
    refine on 18 ?_
    refine callH (by go_simp; (first | done | with_reducible rfl | exact ⟨rfl, rfl⟩)) ?_
    go_at_call 109
    refine (ivalueIn_L kI0 (RdL.b kH) kL1n (RdL.b (ls := [((.slice xA2 xn2 xc2), .ints xL2), ((.slice xA3 xn3 xc3), .ints xL3)]) (RdL.sub xH (by simp))) xL2n xL3n).mono ?_
    rintro e w6 ⟨rfl, b6⟩
    clear hS
    have z6 := Below.size b6
    (try simp only [World.size_alloc, World.size_setCell, size_drew] at z6)
    have B6 : Below w.heap.size w w6 := Below.t b6
    have xk_ : Box w6 (w.heap.size) #[.int .i64 kI0, (.slice kA1 kn1 kc1)] 33 := (Box.b xk b6)
    clear xk; have xk := xk_; clear xk_
    have xa_ : Box w6 (w.heap.size + 1) #[(.slice aA0 an0 ac0), (.slice aA1 an1 ac1)] 38 := (Box.b xa b6)
    clear xa; have xa := xa_; clear xa_
    have xb_ : Box w6 (w.heap.size + 1 + 1) #[(.slice bA0 bn0 bc0), (.slice bA1 bn1 bc1)] 38 := (Box.b xb b6)
    clear xb; have xb := xb_; clear xb_
    have xx_ : Box w6 (w.heap.size + 1 + 1 + 1) #[(.slice xA0 xn0 xc0), (.slice xA1 xn1 xc1), (.slice xA2 xn2 xc2), (.slice xA3 xn3 xc3), (.slice xA4 xn4 xc4), (.slice xA5 xn5 xc5)] 68 := (Box.b xx b6)
    clear xx; have xx := xx_; clear xx_
    have xr_ : Box w6 (w.heap.size + 1 + 1 + 1 + 1) #[.int .i64 0, .int .i64 0] 73 := (Box.b xr b6)
    clear xr; have xr := xr_; clear xr_
    refine ⟨_, rfl, ⟨xk.two.1, xk.two.2.1, xa.two.1, xa.two.2.1, xb.two.1, xb.two.2.1, xx.six.1, xx.six.2.1, xx.six.2.2.1, xx.six.2.2.2.1, xx.six.2.2.2.2.1, xx.six.2.2.2.2.2.1⟩, fun hS => ?_⟩
    (try simp only [Act.put, layA, layB, layC])
    refine on 19 ?_
    refine callH (by go_simp; (first | done | with_reducible rfl | exact ⟨rfl, rfl⟩)) ?_
    go_at_call 122
    refine (iFSub_any _ _ _ _).mono ?_
    rintro e w7 ⟨rfl, b7⟩
    clear hS
    have z7 := Below.size b7
    (try simp only [World.size_alloc, World.size_setCell, size_drew] at z7)
    have B7 : Below w.heap.size w w7 := Below.t b7
    have xk_ : Box w7 (w.heap.size) #[.int .i64 kI0, (.slice kA1 kn1 kc1)] 33 := (Box.b xk b7)
    clear xk; have xk := xk_; clear xk_
    have xa_ : Box w7 (w.heap.size + 1) #[(.slice aA0 an0 ac0), (.slice aA1 an1 ac1)] 38 := (Box.b xa b7)
    clear xa; have xa := xa_; clear xa_
    have xb_ : Box w7 (w.heap.size + 1 + 1) #[(.slice bA0 bn0 bc0), (.slice bA1 bn1 bc1)] 38 := (Box.b xb b7)
    clear xb; have xb := xb_; clear xb_
    have xx_ : Box w7 (w.heap.size + 1 + 1 + 1) #[(.slice xA0 xn0 xc0), (.slice xA1 xn1 xc1), (.slice xA2 xn2 xc2), (.slice xA3 xn3 xc3), (.slice xA4 xn4 xc4), (.slice xA5 xn5 xc5)] 68 := (Box.b xx b7)
    clear xx; have xx := xx_; clear xx_
    have xr_ : Box w7 (w.heap.size + 1 + 1 + 1 + 1) #[.int .i64 0, .int .i64 0] 73 := (Box.b xr b7)
    clear xr; have xr := xr_; clear xr_
    refine ⟨_, rfl, ⟨xk.two.1, xk.two.2.1, xa.two.1, xa.two.2.1, xb.two.1, xb.two.2.1, xx.six.1, xx.six.2.1, xx.six.2.2.1, xx.six.2.2.2.1, xx.six.2.2.2.2.1, xx.six.2.2.2.2.2.1⟩, fun hS => ?_⟩
    (try simp only [Act.put, layA, layB, layC])
    (refine tk 20 hS ?_; (try simp only [Act.put, layA, layB, layC]))
    refine on 21 ?_
    obtain ⟨cxr_0, cxr_1, fxr_0, fxr_1⟩ := xr.two
    refine skipH (by go_simp; (first | done | with_reducible rfl | exact ⟨rfl, rfl⟩)) ?_ (fun hS_ => ?_)
    · exact ⟨((xk.far (by omega)).far (by omega)).two.1, ((xk.far (by omega)).far (by omega)).two.2.1, ((xa.far (by omega)).far (by omega)).two.1, ((xa.far (by omega)).far (by omega)).two.2.1, ((xb.far (by omega)).far (by omega)).two.1, ((xb.far (by omega)).far (by omega)).two.2.1, ((xx.far (by omega)).far (by omega)).six.1, ((xx.far (by omega)).far (by omega)).six.2.1, ((xx.far (by omega)).far (by omega)).six.2.2.1, ((xx.far (by omega)).far (by omega)).six.2.2.2.1, ((xx.far (by omega)).far (by omega)).six.2.2.2.2.1, ((xx.far (by omega)).far (by omega)).six.2.2.2.2.2.1⟩
    clear cxr_0 cxr_1 fxr_0 fxr_1
    clear hS
    have hS := hS_
    clear hS_
    (try simp only [Act.put, layA, layB, layC])
    (refine tk 22 hS ?_; (try simp only [Act.put, layA, layB, layC]))
    clear hS
    refine wpAnyH_done (by kernel_rfl) ?_ _
    obtain ⟨cxr_0, cxr_1, fxr_0, fxr_1⟩ := xr.two
    have l_xr_0 : w.heap.size + 1 + 1 + 1 + 1 < w7.heap.size := by omega
    go_wp2
    refine bodyPost_ret (v := .tuple #[.agg #[.int .i64 (fsub kI0 (fsum kI0 aL0) (fsum kI0 xL0)), .int .i64 (fsub kI0 (fsum kI0 bL0) (fsum kI0 xL2))], .bool true]) ?_ rfl ⟨by rw [toD_yes HO, toE_yes HO], ?_⟩
    · simp [results, Try.results64, go_sem, cxr_0, cxr_1, fxr_0, fxr_1, l_xr_0]
    · repeat (with_reducible (first | assumption | exact Below.refl _ _ | refine Below.alloc ?_ (by first | omega | (simp; done) | (simp; omega)) _ | refine Below.setCell ?_ (by first | omega | (simp; done) | (simp; omega)) _ | refine Below.drew ?_ | refine below_drewN ?_ _))
end Go.Proofs.Ytllnnbmgdbinnaa

/- The walk of the law FnExactTripleUse. Printed by laws2.py. -/
import Derived.Test.YtllnnbmgdbinnaaUse
import Derived.Test.YtllnnbmgdbinnaaHk
import Derived.Test.YtllnnbmgdbinnaaAuto
namespace Go.Proofs.Ytllnnbmgdbinnaa
set_option linter.unusedSimpArgs false
set_option linter.unusedVariables false
open Go.RowKit
set_option maxRecDepth 100000 in
set_option maxHeartbeats 2000000 in
theorem walk_FnExactTripleUse (kI0 : Int) (kL1V : Value) (kL1 : List Int) (xL0V : Value) (xL0 : List Int) (xL1V : Value) (xL1 : List Int) (xL2V : Value) (xL2 : List Int) (xL3V : Value) (xL3 : List Int) (xL4V : Value) (xL4 : List Int) (xL5V : Value) (xL5 : List Int) (oI0 : Int) (oI1 : Int) (w : World) (kL1h : Rd0 w kL1V kL1) (xL0h : Rd0 w xL0V xL0) (xL1h : Rd0 w xL1V xL1) (xL2h : Rd0 w xL2V xL2) (xL3h : Rd0 w xL3V xL3) (xL4h : Rd0 w xL4V xL4) (xL5h : Rd0 w xL5V xL5) :
    Calls Try.prog 23 #[.agg #[.int .i64 kI0, kL1V], .agg #[xL0V, xL1V, xL2V, xL3V, xL4V, xL5V], .agg #[.int .i64 oI0, .int .i64 oI1]] w fun e w' => e = .returned (.bool true) ∧ Below w.heap.size w w' := by
  obtain ⟨kA1, kn1, kc1, rfl, kL1x, kL1I⟩ := kL1h
  have kL1h : Rd0 w (.slice kA1 kn1 kc1) kL1 := ⟨_, _, _, rfl, kL1x, kL1I⟩
  obtain ⟨xA0, xn0, xc0, rfl, xL0x, xL0I⟩ := xL0h
  have xL0h : Rd0 w (.slice xA0 xn0 xc0) xL0 := ⟨_, _, _, rfl, xL0x, xL0I⟩
  obtain ⟨xA1, xn1, xc1, rfl, xL1x, xL1I⟩ := xL1h
  have xL1h : Rd0 w (.slice xA1 xn1 xc1) xL1 := ⟨_, _, _, rfl, xL1x, xL1I⟩
  obtain ⟨xA2, xn2, xc2, rfl, xL2x, xL2I⟩ := xL2h
  have xL2h : Rd0 w (.slice xA2 xn2 xc2) xL2 := ⟨_, _, _, rfl, xL2x, xL2I⟩
  obtain ⟨xA3, xn3, xc3, rfl, xL3x, xL3I⟩ := xL3h
  have xL3h : Rd0 w (.slice xA3 xn3 xc3) xL3 := ⟨_, _, _, rfl, xL3x, xL3I⟩
  obtain ⟨xA4, xn4, xc4, rfl, xL4x, xL4I⟩ := xL4h
  have xL4h : Rd0 w (.slice xA4 xn4 xc4) xL4 := ⟨_, _, _, rfl, xL4x, xL4I⟩
  obtain ⟨xA5, xn5, xc5, rfl, xL5x, xL5I⟩ := xL5h
  have xL5h : Rd0 w (.slice xA5 xn5 xc5) xL5 := ⟨_, _, _, rfl, xL5x, xL5I⟩
  by_cases sz0 : (kL1.length) ≤ 1048576
  · skip
    by_cases sz1 : (kL1.length) + (xL0.length + xL1.length + xL2.length + xL3.length + xL4.length + xL5.length) ≤ 1048576
    · skip
      have kL1n : kL1.length ≤ 1048576 := by omega
      have xL0n : xL0.length ≤ 1048576 := by omega
      have xL1n : xL1.length ≤ 1048576 := by omega
      have xL2n : xL2.length ≤ 1048576 := by omega
      have xL3n : xL3.length ≤ 1048576 := by omega
      have xL4n : xL4.length ≤ 1048576 := by omega
      have xL5n : xL5.length ≤ 1048576 := by omega
      have rL0_0n : (uS kI0 kL1 xL0 xL1 xL2 xL3 xL4 xL5 oI0 oI1).length ≤ 1048576 := Nat.le_trans uS_len xL4n
      have rL0_1n : (uM kI0 kL1 xL0 xL1 xL2 xL3 xL4 xL5 oI0 oI1).length ≤ 1048576 := Nat.le_trans uM_len xL5n
      go_enter Try.func23, Try.ntmps23
      go_wp2_with fail
      refine (szKeys_yes kI0 kL1h.b (1048576) _ (by first | rfl | simp) (by omega) (by omega)).mono ?_
      rintro e w1 ⟨rfl, b1⟩
      have z1 := b1.size
      try simp only [World.size_alloc, World.size_setCell, size_drew] at z1
      have B1 : Below w.heap.size w w1 := Below.t b1
      have pk_ : Box w1 (w.heap.size) #[.int .i64 kI0, (.slice kA1 kn1 kc1)] 30 := (((Box.new (g := w.heap.size) _ #[.int .i64 kI0, (.slice kA1 kn1 kc1)] 30 (by simp)).alloc _).alloc _).below b1 (by first | omega | (simp [size_drew]; done) | (simp [size_drew]; omega))
      have pk := pk_; clear pk_
      have px_ : Box w1 (w.heap.size + 1) #[(.slice xA0 xn0 xc0), (.slice xA1 xn1 xc1), (.slice xA2 xn2 xc2), (.slice xA3 xn3 xc3), (.slice xA4 xn4 xc4), (.slice xA5 xn5 xc5)] 64 := ((Box.new (g := w.heap.size + 1) _ #[(.slice xA0 xn0 xc0), (.slice xA1 xn1 xc1), (.slice xA2 xn2 xc2), (.slice xA3 xn3 xc3), (.slice xA4 xn4 xc4), (.slice xA5 xn5 xc5)] 64 (by simp)).alloc _).below b1 (by first | omega | (simp [size_drew]; done) | (simp [size_drew]; omega))
      have px := px_; clear px_
      have po_ : Box w1 (w.heap.size + 1 + 1) #[.int .i64 oI0, .int .i64 oI1] 90 := (Box.new (g := w.heap.size + 1 + 1) _ #[.int .i64 oI0, .int .i64 oI1] 90 (by simp)).below b1 (by first | omega | (simp [size_drew]; done) | (simp [size_drew]; omega))
      have po := po_; clear po_
      obtain ⟨cpx_0, cpx_1, cpx_2, cpx_3, cpx_4, cpx_5, fpx_0, fpx_1, fpx_2, fpx_3, fpx_4, fpx_5⟩ := px.six
      have l_px_0 : w.heap.size + 1 < w1.heap.size := by omega
      go_wp2_with fail
      refine (szTriple_yes xL0h.b xL1h.b xL2h.b xL3h.b xL4h.b xL5h.b (1048576 - (kL1.length)) _ (by first | rfl | simp) (by omega) (by omega)).mono ?_
      rintro e w2 ⟨rfl, b2⟩
      clear cpx_0 cpx_1 cpx_2 cpx_3 cpx_4 cpx_5 fpx_0 fpx_1 fpx_2 fpx_3 fpx_4 fpx_5 l_px_0
      have z2 := b2.size
      try simp only [World.size_alloc, World.size_setCell, size_drew] at z2
      have B2 : Below w.heap.size w w2 := Below.t b2
      have pk_ : Box w2 (w.heap.size) #[.int .i64 kI0, (.slice kA1 kn1 kc1)] 30 := pk.below b2 (by first | omega | (simp [size_drew]; done) | (simp [size_drew]; omega))
      clear pk; have pk := pk_; clear pk_
      have px_ : Box w2 (w.heap.size + 1) #[(.slice xA0 xn0 xc0), (.slice xA1 xn1 xc1), (.slice xA2 xn2 xc2), (.slice xA3 xn3 xc3), (.slice xA4 xn4 xc4), (.slice xA5 xn5 xc5)] 64 := px.below b2 (by first | omega | (simp [size_drew]; done) | (simp [size_drew]; omega))
      clear px; have px := px_; clear px_
      have po_ : Box w2 (w.heap.size + 1 + 1) #[.int .i64 oI0, .int .i64 oI1] 90 := po.below b2 (by first | omega | (simp [size_drew]; done) | (simp [size_drew]; omega))
      clear po; have po := po_; clear po_
      obtain ⟨cpk_0, cpk_1, fpk_0, fpk_1⟩ := pk.two
      have l_pk_0 : w.heap.size < w2.heap.size := by omega
      obtain ⟨cpx_0, cpx_1, cpx_2, cpx_3, cpx_4, cpx_5, fpx_0, fpx_1, fpx_2, fpx_3, fpx_4, fpx_5⟩ := px.six
      have l_px_0 : w.heap.size + 1 < w2.heap.size := by omega
      obtain ⟨cpo_0, cpo_1, fpo_0, fpo_1⟩ := po.two
      have l_po_0 : w.heap.size + 1 + 1 < w2.heap.size := by omega
      go_wp2_with fail
      clear cpk_0 cpk_1 fpk_0 fpk_1 l_pk_0 cpx_0 cpx_1 cpx_2 cpx_3 cpx_4 cpx_5 fpx_0 fpx_1 fpx_2 fpx_3 fpx_4 fpx_5 l_px_0 cpo_0 cpo_1 fpo_0 fpo_1 l_po_0
      refine wp_region_M [8] (w2.heap.size) 9 (S := fun W => Below w.heap.size w W ∧ Below w2.heap.size w2 W ∧ W.cell? ⟨w.heap.size, 0, none⟩ = some (.int .i64 kI0) ∧ W.cell? ⟨w.heap.size, 1, none⟩ = some ((.slice kA1 kn1 kc1)) ∧ W.cell? ⟨w.heap.size + 1, 0, none⟩ = some ((.slice xA0 xn0 xc0)) ∧ W.cell? ⟨w.heap.size + 1, 1, none⟩ = some ((.slice xA1 xn1 xc1)) ∧ W.cell? ⟨w.heap.size + 1, 2, none⟩ = some ((.slice xA2 xn2 xc2)) ∧ W.cell? ⟨w.heap.size + 1, 3, none⟩ = some ((.slice xA3 xn3 xc3)) ∧ W.cell? ⟨w.heap.size + 1, 4, none⟩ = some ((.slice xA4 xn4 xc4)) ∧ W.cell? ⟨w.heap.size + 1, 5, none⟩ = some ((.slice xA5 xn5 xc5)) ∧ W.cell? ⟨w.heap.size + 1 + 1, 0, none⟩ = some (.int .i64 oI0) ∧ W.cell? ⟨w.heap.size + 1 + 1, 1, none⟩ = some (.int .i64 oI1)) (by kernel_rfl) (by rfl) (fun W hW => ⟨Below.trans (b := _) (by repeat (with_reducible (first | assumption | exact Below.refl _ _ | refine Below.alloc ?_ (by first | omega | (simp; done) | (simp; omega)) _ | refine Below.setCell ?_ (by first | omega | (simp; done) | (simp; omega)) _ | refine Below.drew ?_ | refine below_drewN ?_ _))) (Below.mono hW (by first | omega | (simp [size_drew]; done) | (simp [size_drew]; omega))), Below.trans (b := _) (by repeat (with_reducible (first | assumption | exact Below.refl _ _ | refine Below.alloc ?_ (by first | omega | (simp; done) | (simp; omega)) _ | refine Below.setCell ?_ (by first | omega | (simp; done) | (simp; omega)) _ | refine Below.drew ?_ | refine below_drewN ?_ _))) (Below.mono hW (by first | omega | (simp [size_drew]; done) | (simp [size_drew]; omega))), (Box.below pk.drew hW (by first | omega | (simp [size_drew]; done) | (simp [size_drew]; omega))).two.1, (Box.below pk.drew hW (by first | omega | (simp [size_drew]; done) | (simp [size_drew]; omega))).two.2.1, (Box.below px.drew hW (by first | omega | (simp [size_drew]; done) | (simp [size_drew]; omega))).six.1, (Box.below px.drew hW (by first | omega | (simp [size_drew]; done) | (simp [size_drew]; omega))).six.2.1, (Box.below px.drew hW (by first | omega | (simp [size_drew]; done) | (simp [size_drew]; omega))).six.2.2.1, (Box.below px.drew hW (by first | omega | (simp [size_drew]; done) | (simp [size_drew]; omega))).six.2.2.2.1, (Box.below px.drew hW (by first | omega | (simp [size_drew]; done) | (simp [size_drew]; omega))).six.2.2.2.2.1, (Box.below px.drew hW (by first | omega | (simp [size_drew]; done) | (simp [size_drew]; omega))).six.2.2.2.2.2.1, (Box.below po.drew hW (by first | omega | (simp [size_drew]; done) | (simp [size_drew]; omega))).two.1, (Box.below po.drew hW (by first | omega | (simp [size_drew]; done) | (simp [size_drew]; omega))).two.2.1⟩) (by first | omega | (simp [size_drew]; done) | (simp [size_drew]; omega)) (fun hS hG => ?_)
      (try dsimp only at hS)
      refine pendM 7 8 #[.slice none 0 0, .slice none 0 0] 38 (by simp only [List.getElem?_toArray, List.getElem?_cons_succ, List.getElem?_cons_zero] <;> rfl) (by kernel_rfl) (by exact fun _ _ _ _ h => h) (by intro a W; unfold ptr; go_simp; (first | done | rfl)) hG ?_
      (refine tkM 0 hG hS ?_; (try simp only [Act.put, List.setIfInBounds_toArray, List.set_cons_zero, List.set_cons_succ]))
      (refine tkM 2 hG hS ?_; (try simp only [Act.put, List.setIfInBounds_toArray, List.set_cons_zero, List.set_cons_succ]))
      (refine tkM 4 hG hS ?_; (try simp only [Act.put, List.setIfInBounds_toArray, List.set_cons_zero, List.set_cons_succ]))
      refine callM hG (i := 1) (by simp only [List.getElem?_toArray, List.getElem?_cons_succ, List.getElem?_cons_zero] <;> rfl) (by kernel_rfl) (by rfl) (by rfl) (by intro W hW; have hSw := hS W hW; (try dsimp only at hSw); go_simp; (first | done | with_reducible rfl | exact ⟨rfl, rfl⟩)) ?_
      intro w3 b3
      have B3 : Below w.heap.size w w3 := (hS w3 b3).1
      have z3 := Below.size b3
      (try simp only [World.size_alloc, World.size_setCell, size_drew] at z3)
      have pk_ : Box w3 (w.heap.size) #[.int .i64 kI0, (.slice kA1 kn1 kc1)] 30 := (Box.b pk.drew b3)
      clear pk; have pk := pk_; clear pk_
      have px_ : Box w3 (w.heap.size + 1) #[(.slice xA0 xn0 xc0), (.slice xA1 xn1 xc1), (.slice xA2 xn2 xc2), (.slice xA3 xn3 xc3), (.slice xA4 xn4 xc4), (.slice xA5 xn5 xc5)] 64 := (Box.b px.drew b3)
      clear px; have px := px_; clear px_
      have po_ : Box w3 (w.heap.size + 1 + 1) #[.int .i64 oI0, .int .i64 oI1] 90 := (Box.b po.drew b3)
      clear po; have po := po_; clear po_
      clear hS hG
      go_at_call 35
      refine (toKeys_L kI0 (RdL.cons (d := .ints kL1) kL1h.rd.b RdL.nil) kL1n).mono ?_
      rintro e w4 ⟨skA1, skn1, skc1, rfl, rsk, b4⟩
      refine ⟨_, rfl, b4, fun hG => ?_⟩
      have z4 := Below.size b4
      have B4 : Below w.heap.size w w4 := Below.t b4
      have pk_ : Box w4 (w.heap.size) #[.int .i64 kI0, (.slice kA1 kn1 kc1)] 30 := (Box.b pk b4)
      clear pk; have pk := pk_; clear pk_
      have px_ : Box w4 (w.heap.size + 1) #[(.slice xA0 xn0 xc0), (.slice xA1 xn1 xc1), (.slice xA2 xn2 xc2), (.slice xA3 xn3 xc3), (.slice xA4 xn4 xc4), (.slice xA5 xn5 xc5)] 64 := (Box.b px b4)
      clear px; have px := px_; clear px_
      have po_ : Box w4 (w.heap.size + 1 + 1) #[.int .i64 oI0, .int .i64 oI1] 90 := (Box.b po b4)
      clear po; have po := po_; clear po_
      (try simp only [Act.put, List.setIfInBounds_toArray, List.set_cons_zero, List.set_cons_succ])
      have hS : ∀ W, Later w4 W → (Below w.heap.size w W ∧ Below w4.heap.size w4 W ∧ W.cell? ⟨w.heap.size, 0, none⟩ = some (.int .i64 kI0) ∧ W.cell? ⟨w.heap.size, 1, none⟩ = some ((.slice kA1 kn1 kc1)) ∧ W.cell? ⟨w.heap.size + 1, 0, none⟩ = some ((.slice xA0 xn0 xc0)) ∧ W.cell? ⟨w.heap.size + 1, 1, none⟩ = some ((.slice xA1 xn1 xc1)) ∧ W.cell? ⟨w.heap.size + 1, 2, none⟩ = some ((.slice xA2 xn2 xc2)) ∧ W.cell? ⟨w.heap.size + 1, 3, none⟩ = some ((.slice xA3 xn3 xc3)) ∧ W.cell? ⟨w.heap.size + 1, 4, none⟩ = some ((.slice xA4 xn4 xc4)) ∧ W.cell? ⟨w.heap.size + 1, 5, none⟩ = some ((.slice xA5 xn5 xc5)) ∧ W.cell? ⟨w.heap.size + 1 + 1, 0, none⟩ = some (.int .i64 oI0) ∧ W.cell? ⟨w.heap.size + 1 + 1, 1, none⟩ = some (.int .i64 oI1)) := fun W hW => ⟨Below.trans (b := _) (by repeat (with_reducible (first | assumption | exact Below.refl _ _ | refine Below.alloc ?_ (by first | omega | (simp; done) | (simp; omega)) _ | refine Below.setCell ?_ (by first | omega | (simp; done) | (simp; omega)) _ | refine Below.drew ?_ | refine below_drewN ?_ _))) (Below.mono hW (by first | omega | (simp [size_drew]; done) | (simp [size_drew]; omega))), Below.trans (b := _) (by repeat (with_reducible (first | assumption | exact Below.refl _ _ | refine Below.alloc ?_ (by first | omega | (simp; done) | (simp; omega)) _ | refine Below.setCell ?_ (by first | omega | (simp; done) | (simp; omega)) _ | refine Below.drew ?_ | refine below_drewN ?_ _))) (Below.mono hW (by first | omega | (simp [size_drew]; done) | (simp [size_drew]; omega))), (Box.below pk hW (by first | omega | (simp [size_drew]; done) | (simp [size_drew]; omega))).two.1, (Box.below pk hW (by first | omega | (simp [size_drew]; done) | (simp [size_drew]; omega))).two.2.1, (Box.below px hW (by first | omega | (simp [size_drew]; done) | (simp [size_drew]; omega))).six.1, (Box.below px hW (by first | omega | (simp [size_drew]; done) | (simp [size_drew]; omega))).six.2.1, (Box.below px hW (by first | omega | (simp [size_drew]; done) | (simp [size_drew]; omega))).six.2.2.1, (Box.below px hW (by first | omega | (simp [size_drew]; done) | (simp [size_drew]; omega))).six.2.2.2.1, (Box.below px hW (by first | omega | (simp [size_drew]; done) | (simp [size_drew]; omega))).six.2.2.2.2.1, (Box.below px hW (by first | omega | (simp [size_drew]; done) | (simp [size_drew]; omega))).six.2.2.2.2.2.1, (Box.below po hW (by first | omega | (simp [size_drew]; done) | (simp [size_drew]; omega))).two.1, (Box.below po hW (by first | omega | (simp [size_drew]; done) | (simp [size_drew]; omega))).two.2.1⟩
      refine callM hG (i := 3) (by simp only [List.getElem?_toArray, List.getElem?_cons_succ, List.getElem?_cons_zero] <;> rfl) (by kernel_rfl) (by rfl) (by rfl) (by intro W hW; have hSw := hS W hW; (try dsimp only at hSw); go_simp; (first | done | with_reducible rfl | exact ⟨rfl, rfl⟩)) ?_
      intro w5 b5
      have B5 : Below w.heap.size w w5 := (hS w5 b5).1
      have z5 := Below.size b5
      (try simp only [World.size_alloc, World.size_setCell, size_drew] at z5)
      have rsk_ := (rsk.below b5)
      clear rsk; have rsk := rsk_; clear rsk_
      have pk_ : Box w5 (w.heap.size) #[.int .i64 kI0, (.slice kA1 kn1 kc1)] 30 := (Box.b pk b5)
      clear pk; have pk := pk_; clear pk_
      have px_ : Box w5 (w.heap.size + 1) #[(.slice xA0 xn0 xc0), (.slice xA1 xn1 xc1), (.slice xA2 xn2 xc2), (.slice xA3 xn3 xc3), (.slice xA4 xn4 xc4), (.slice xA5 xn5 xc5)] 64 := (Box.b px b5)
      clear px; have px := px_; clear px_
      have po_ : Box w5 (w.heap.size + 1 + 1) #[.int .i64 oI0, .int .i64 oI1] 90 := (Box.b po b5)
      clear po; have po := po_; clear po_
      clear hS hG
      go_at_call 60
      refine (toTriple_L (RdL.cons (d := .ints xL0) xL0h.rd.b (RdL.cons (d := .ints xL1) xL1h.rd.b (RdL.cons (d := .ints xL2) xL2h.rd.b (RdL.cons (d := .ints xL3) xL3h.rd.b (RdL.cons (d := .ints xL4) xL4h.rd.b (RdL.cons (d := .ints xL5) xL5h.rd.b RdL.nil)))))) xL0n xL1n xL2n xL3n xL4n xL5n).mono ?_
      rintro e w6 ⟨sxA0, sxn0, sxc0, sxA1, sxn1, sxc1, sxA2, sxn2, sxc2, sxA3, sxn3, sxc3, sxA4, sxn4, sxc4, sxA5, sxn5, sxc5, rfl, rsx, b6⟩
      refine ⟨_, rfl, b6, fun hG => ?_⟩
      have z6 := Below.size b6
      have B6 : Below w.heap.size w w6 := Below.t b6
      have rsk_ := (rsk.below b6)
      clear rsk; have rsk := rsk_; clear rsk_
      have pk_ : Box w6 (w.heap.size) #[.int .i64 kI0, (.slice kA1 kn1 kc1)] 30 := (Box.b pk b6)
      clear pk; have pk := pk_; clear pk_
      have px_ : Box w6 (w.heap.size + 1) #[(.slice xA0 xn0 xc0), (.slice xA1 xn1 xc1), (.slice xA2 xn2 xc2), (.slice xA3 xn3 xc3), (.slice xA4 xn4 xc4), (.slice xA5 xn5 xc5)] 64 := (Box.b px b6)
      clear px; have px := px_; clear px_
      have po_ : Box w6 (w.heap.size + 1 + 1) #[.int .i64 oI0, .int .i64 oI1] 90 := (Box.b po b6)
      clear po; have po := po_; clear po_
      (try simp only [Act.put, List.setIfInBounds_toArray, List.set_cons_zero, List.set_cons_succ])
      have hS : ∀ W, Later w6 W → (Below w.heap.size w W ∧ Below w6.heap.size w6 W ∧ W.cell? ⟨w.heap.size, 0, none⟩ = some (.int .i64 kI0) ∧ W.cell? ⟨w.heap.size, 1, none⟩ = some ((.slice kA1 kn1 kc1)) ∧ W.cell? ⟨w.heap.size + 1, 0, none⟩ = some ((.slice xA0 xn0 xc0)) ∧ W.cell? ⟨w.heap.size + 1, 1, none⟩ = some ((.slice xA1 xn1 xc1)) ∧ W.cell? ⟨w.heap.size + 1, 2, none⟩ = some ((.slice xA2 xn2 xc2)) ∧ W.cell? ⟨w.heap.size + 1, 3, none⟩ = some ((.slice xA3 xn3 xc3)) ∧ W.cell? ⟨w.heap.size + 1, 4, none⟩ = some ((.slice xA4 xn4 xc4)) ∧ W.cell? ⟨w.heap.size + 1, 5, none⟩ = some ((.slice xA5 xn5 xc5)) ∧ W.cell? ⟨w.heap.size + 1 + 1, 0, none⟩ = some (.int .i64 oI0) ∧ W.cell? ⟨w.heap.size + 1 + 1, 1, none⟩ = some (.int .i64 oI1)) := fun W hW => ⟨Below.trans (b := _) (by repeat (with_reducible (first | assumption | exact Below.refl _ _ | refine Below.alloc ?_ (by first | omega | (simp; done) | (simp; omega)) _ | refine Below.setCell ?_ (by first | omega | (simp; done) | (simp; omega)) _ | refine Below.drew ?_ | refine below_drewN ?_ _))) (Below.mono hW (by first | omega | (simp [size_drew]; done) | (simp [size_drew]; omega))), Below.trans (b := _) (by repeat (with_reducible (first | assumption | exact Below.refl _ _ | refine Below.alloc ?_ (by first | omega | (simp; done) | (simp; omega)) _ | refine Below.setCell ?_ (by first | omega | (simp; done) | (simp; omega)) _ | refine Below.drew ?_ | refine below_drewN ?_ _))) (Below.mono hW (by first | omega | (simp [size_drew]; done) | (simp [size_drew]; omega))), (Box.below pk hW (by first | omega | (simp [size_drew]; done) | (simp [size_drew]; omega))).two.1, (Box.below pk hW (by first | omega | (simp [size_drew]; done) | (simp [size_drew]; omega))).two.2.1, (Box.below px hW (by first | omega | (simp [size_drew]; done) | (simp [size_drew]; omega))).six.1, (Box.below px hW (by first | omega | (simp [size_drew]; done) | (simp [size_drew]; omega))).six.2.1, (Box.below px hW (by first | omega | (simp [size_drew]; done) | (simp [size_drew]; omega))).six.2.2.1, (Box.below px hW (by first | omega | (simp [size_drew]; done) | (simp [size_drew]; omega))).six.2.2.2.1, (Box.below px hW (by first | omega | (simp [size_drew]; done) | (simp [size_drew]; omega))).six.2.2.2.2.1, (Box.below px hW (by first | omega | (simp [size_drew]; done) | (simp [size_drew]; omega))).six.2.2.2.2.2.1, (Box.below po hW (by first | omega | (simp [size_drew]; done) | (simp [size_drew]; omega))).two.1, (Box.below po hW (by first | omega | (simp [size_drew]; done) | (simp [size_drew]; omega))).two.2.1⟩
      refine callM hG (i := 5) (by simp only [List.getElem?_toArray, List.getElem?_cons_succ, List.getElem?_cons_zero] <;> rfl) (by kernel_rfl) (by rfl) (by rfl) (by intro W hW; have hSw := hS W hW; (try dsimp only at hSw); go_simp; (first | done | with_reducible rfl | exact ⟨rfl, rfl⟩)) ?_
      intro w7 b7
      have B7 : Below w.heap.size w w7 := (hS w7 b7).1
      have z7 := Below.size b7
      (try simp only [World.size_alloc, World.size_setCell, size_drew] at z7)
      have rsk_ := (rsk.below b7)
      clear rsk; have rsk := rsk_; clear rsk_
      have rsx_ := (rsx.below b7)
      clear rsx; have rsx := rsx_; clear rsx_
      have pk_ : Box w7 (w.heap.size) #[.int .i64 kI0, (.slice kA1 kn1 kc1)] 30 := (Box.b pk b7)
      clear pk; have pk := pk_; clear pk_
      have px_ : Box w7 (w.heap.size + 1) #[(.slice xA0 xn0 xc0), (.slice xA1 xn1 xc1), (.slice xA2 xn2 xc2), (.slice xA3 xn3 xc3), (.slice xA4 xn4 xc4), (.slice xA5 xn5 xc5)] 64 := (Box.b px b7)
      clear px; have px := px_; clear px_
      have po_ : Box w7 (w.heap.size + 1 + 1) #[.int .i64 oI0, .int .i64 oI1] 90 := (Box.b po b7)
      clear po; have po := po_; clear po_
      clear hS hG
      go_at_call 81
      refine (toOpening_L oI0 oI1).mono ?_
      rintro e w8 ⟨rfl, b8⟩
      refine ⟨_, rfl, b8, fun hG => ?_⟩
      have z8 := Below.size b8
      have B8 : Below w.heap.size w w8 := Below.t b8
      have rsk_ := (rsk.below b8)
      clear rsk; have rsk := rsk_; clear rsk_
      have rsx_ := (rsx.below b8)
      clear rsx; have rsx := rsx_; clear rsx_
      have pk_ : Box w8 (w.heap.size) #[.int .i64 kI0, (.slice kA1 kn1 kc1)] 30 := (Box.b pk b8)
      clear pk; have pk := pk_; clear pk_
      have px_ : Box w8 (w.heap.size + 1) #[(.slice xA0 xn0 xc0), (.slice xA1 xn1 xc1), (.slice xA2 xn2 xc2), (.slice xA3 xn3 xc3), (.slice xA4 xn4 xc4), (.slice xA5 xn5 xc5)] 64 := (Box.b px b8)
      clear px; have px := px_; clear px_
      have po_ : Box w8 (w.heap.size + 1 + 1) #[.int .i64 oI0, .int .i64 oI1] 90 := (Box.b po b8)
      clear po; have po := po_; clear po_
      (try simp only [Act.put, List.setIfInBounds_toArray, List.set_cons_zero, List.set_cons_succ])
      have hS : ∀ W, Later w8 W → (Below w.heap.size w W ∧ Below w8.heap.size w8 W ∧ W.cell? ⟨w.heap.size, 0, none⟩ = some (.int .i64 kI0) ∧ W.cell? ⟨w.heap.size, 1, none⟩ = some ((.slice kA1 kn1 kc1)) ∧ W.cell? ⟨w.heap.size + 1, 0, none⟩ = some ((.slice xA0 xn0 xc0)) ∧ W.cell? ⟨w.heap.size + 1, 1, none⟩ = some ((.slice xA1 xn1 xc1)) ∧ W.cell? ⟨w.heap.size + 1, 2, none⟩ = some ((.slice xA2 xn2 xc2)) ∧ W.cell? ⟨w.heap.size + 1, 3, none⟩ = some ((.slice xA3 xn3 xc3)) ∧ W.cell? ⟨w.heap.size + 1, 4, none⟩ = some ((.slice xA4 xn4 xc4)) ∧ W.cell? ⟨w.heap.size + 1, 5, none⟩ = some ((.slice xA5 xn5 xc5)) ∧ W.cell? ⟨w.heap.size + 1 + 1, 0, none⟩ = some (.int .i64 oI0) ∧ W.cell? ⟨w.heap.size + 1 + 1, 1, none⟩ = some (.int .i64 oI1)) := fun W hW => ⟨Below.trans (b := _) (by repeat (with_reducible (first | assumption | exact Below.refl _ _ | refine Below.alloc ?_ (by first | omega | (simp; done) | (simp; omega)) _ | refine Below.setCell ?_ (by first | omega | (simp; done) | (simp; omega)) _ | refine Below.drew ?_ | refine below_drewN ?_ _))) (Below.mono hW (by first | omega | (simp [size_drew]; done) | (simp [size_drew]; omega))), Below.trans (b := _) (by repeat (with_reducible (first | assumption | exact Below.refl _ _ | refine Below.alloc ?_ (by first | omega | (simp; done) | (simp; omega)) _ | refine Below.setCell ?_ (by first | omega | (simp; done) | (simp; omega)) _ | refine Below.drew ?_ | refine below_drewN ?_ _))) (Below.mono hW (by first | omega | (simp [size_drew]; done) | (simp [size_drew]; omega))), (Box.below pk hW (by first | omega | (simp [size_drew]; done) | (simp [size_drew]; omega))).two.1, (Box.below pk hW (by first | omega | (simp [size_drew]; done) | (simp [size_drew]; omega))).two.2.1, (Box.below px hW (by first | omega | (simp [size_drew]; done) | (simp [size_drew]; omega))).six.1, (Box.below px hW (by first | omega | (simp [size_drew]; done) | (simp [size_drew]; omega))).six.2.1, (Box.below px hW (by first | omega | (simp [size_drew]; done) | (simp [size_drew]; omega))).six.2.2.1, (Box.below px hW (by first | omega | (simp [size_drew]; done) | (simp [size_drew]; omega))).six.2.2.2.1, (Box.below px hW (by first | omega | (simp [size_drew]; done) | (simp [size_drew]; omega))).six.2.2.2.2.1, (Box.below px hW (by first | omega | (simp [size_drew]; done) | (simp [size_drew]; omega))).six.2.2.2.2.2.1, (Box.below po hW (by first | omega | (simp [size_drew]; done) | (simp [size_drew]; omega))).two.1, (Box.below po hW (by first | omega | (simp [size_drew]; done) | (simp [size_drew]; omega))).two.2.1⟩
      refine callM hG (i := 6) (by simp only [List.getElem?_toArray, List.getElem?_cons_succ, List.getElem?_cons_zero] <;> rfl) (by kernel_rfl) (by rfl) (by rfl) (by intro W hW; have hSw := hS W hW; (try dsimp only at hSw); go_simp; (first | done | with_reducible rfl | exact ⟨rfl, rfl⟩)) ?_
      intro w9 b9
      have B9 : Below w.heap.size w w9 := (hS w9 b9).1
      have z9 := Below.size b9
      (try simp only [World.size_alloc, World.size_setCell, size_drew] at z9)
      have rsk_ := (rsk.below b9)
      clear rsk; have rsk := rsk_; clear rsk_
      have rsx_ := (rsx.below b9)
      clear rsx; have rsx := rsx_; clear rsx_
      have pk_ : Box w9 (w.heap.size) #[.int .i64 kI0, (.slice kA1 kn1 kc1)] 30 := (Box.b pk b9)
      clear pk; have pk := pk_; clear pk_
      have px_ : Box w9 (w.heap.size + 1) #[(.slice xA0 xn0 xc0), (.slice xA1 xn1 xc1), (.slice xA2 xn2 xc2), (.slice xA3 xn3 xc3), (.slice xA4 xn4 xc4), (.slice xA5 xn5 xc5)] 64 := (Box.b px b9)
      clear px; have px := px_; clear px_
      have po_ : Box w9 (w.heap.size + 1 + 1) #[.int .i64 oI0, .int .i64 oI1] 90 := (Box.b po b9)
      clear po; have po := po_; clear po_
      clear hS hG
      go_at_call 80
      refine (sTripleUse_L kI0 rsk.rd kL1n rsx.rd xL0n xL1n xL2n xL3n xL4n xL5n oI0 oI1).mono ?_
      rintro e w10 ⟨w0A0, w0n0, w0c0, w0A1, w0n1, w0c1, rfl, rw0, b10⟩
      refine ⟨_, rfl, b10, fun hG => ?_⟩
      have z10 := Below.size b10
      have B10 : Below w.heap.size w w10 := Below.t b10
      have rsk_ := (rsk.below b10)
      clear rsk; have rsk := rsk_; clear rsk_
      have rsx_ := (rsx.below b10)
      clear rsx; have rsx := rsx_; clear rsx_
      have pk_ : Box w10 (w.heap.size) #[.int .i64 kI0, (.slice kA1 kn1 kc1)] 30 := (Box.b pk b10)
      clear pk; have pk := pk_; clear pk_
      have px_ : Box w10 (w.heap.size + 1) #[(.slice xA0 xn0 xc0), (.slice xA1 xn1 xc1), (.slice xA2 xn2 xc2), (.slice xA3 xn3 xc3), (.slice xA4 xn4 xc4), (.slice xA5 xn5 xc5)] 64 := (Box.b px b10)
      clear px; have px := px_; clear px_
      have po_ : Box w10 (w.heap.size + 1 + 1) #[.int .i64 oI0, .int .i64 oI1] 90 := (Box.b po b10)
      clear po; have po := po_; clear po_
      (try simp only [Act.put, List.setIfInBounds_toArray, List.set_cons_zero, List.set_cons_succ])
      have hS : ∀ W, Later w10 W → (Below w.heap.size w W ∧ Below w10.heap.size w10 W ∧ W.cell? ⟨w.heap.size, 0, none⟩ = some (.int .i64 kI0) ∧ W.cell? ⟨w.heap.size, 1, none⟩ = some ((.slice kA1 kn1 kc1)) ∧ W.cell? ⟨w.heap.size + 1, 0, none⟩ = some ((.slice xA0 xn0 xc0)) ∧ W.cell? ⟨w.heap.size + 1, 1, none⟩ = some ((.slice xA1 xn1 xc1)) ∧ W.cell? ⟨w.heap.size + 1, 2, none⟩ = some ((.slice xA2 xn2 xc2)) ∧ W.cell? ⟨w.heap.size + 1, 3, none⟩ = some ((.slice xA3 xn3 xc3)) ∧ W.cell? ⟨w.heap.size + 1, 4, none⟩ = some ((.slice xA4 xn4 xc4)) ∧ W.cell? ⟨w.heap.size + 1, 5, none⟩ = some ((.slice xA5 xn5 xc5)) ∧ W.cell? ⟨w.heap.size + 1 + 1, 0, none⟩ = some (.int .i64 oI0) ∧ W.cell? ⟨w.heap.size + 1 + 1, 1, none⟩ = some (.int .i64 oI1)) := fun W hW => ⟨Below.trans (b := _) (by repeat (with_reducible (first | assumption | exact Below.refl _ _ | refine Below.alloc ?_ (by first | omega | (simp; done) | (simp; omega)) _ | refine Below.setCell ?_ (by first | omega | (simp; done) | (simp; omega)) _ | refine Below.drew ?_ | refine below_drewN ?_ _))) (Below.mono hW (by first | omega | (simp [size_drew]; done) | (simp [size_drew]; omega))), Below.trans (b := _) (by repeat (with_reducible (first | assumption | exact Below.refl _ _ | refine Below.alloc ?_ (by first | omega | (simp; done) | (simp; omega)) _ | refine Below.setCell ?_ (by first | omega | (simp; done) | (simp; omega)) _ | refine Below.drew ?_ | refine below_drewN ?_ _))) (Below.mono hW (by first | omega | (simp [size_drew]; done) | (simp [size_drew]; omega))), (Box.below pk hW (by first | omega | (simp [size_drew]; done) | (simp [size_drew]; omega))).two.1, (Box.below pk hW (by first | omega | (simp [size_drew]; done) | (simp [size_drew]; omega))).two.2.1, (Box.below px hW (by first | omega | (simp [size_drew]; done) | (simp [size_drew]; omega))).six.1, (Box.below px hW (by first | omega | (simp [size_drew]; done) | (simp [size_drew]; omega))).six.2.1, (Box.below px hW (by first | omega | (simp [size_drew]; done) | (simp [size_drew]; omega))).six.2.2.1, (Box.below px hW (by first | omega | (simp [size_drew]; done) | (simp [size_drew]; omega))).six.2.2.2.1, (Box.below px hW (by first | omega | (simp [size_drew]; done) | (simp [size_drew]; omega))).six.2.2.2.2.1, (Box.below px hW (by first | omega | (simp [size_drew]; done) | (simp [size_drew]; omega))).six.2.2.2.2.2.1, (Box.below po hW (by first | omega | (simp [size_drew]; done) | (simp [size_drew]; omega))).two.1, (Box.below po hW (by first | omega | (simp [size_drew]; done) | (simp [size_drew]; omega))).two.2.1⟩
      refine storeM (z := 8) (by simp only [List.getElem?_toArray, List.getElem?_cons_succ, List.getElem?_cons_zero] <;> rfl) (by kernel_rfl) (by rfl) (by rfl) ?_
      intro w11 b11
      have B11 : Below w.heap.size w w11 := (hS w11 b11).1
      have z11 := Below.size b11
      (try simp only [World.size_alloc, World.size_setCell, size_drew] at z11)
      have rsk_ := (rsk.below b11)
      clear rsk; have rsk := rsk_; clear rsk_
      have rsx_ := (rsx.below b11)
      clear rsx; have rsx := rsx_; clear rsx_
      have rw0_ := (rw0.below b11)
      clear rw0; have rw0 := rw0_; clear rw0_
      have pk_ : Box w11 (w.heap.size) #[.int .i64 kI0, (.slice kA1 kn1 kc1)] 30 := (Box.b pk b11)
      clear pk; have pk := pk_; clear pk_
      have px_ : Box w11 (w.heap.size + 1) #[(.slice xA0 xn0 xc0), (.slice xA1 xn1 xc1), (.slice xA2 xn2 xc2), (.slice xA3 xn3 xc3), (.slice xA4 xn4 xc4), (.slice xA5 xn5 xc5)] 64 := (Box.b px b11)
      clear px; have px := px_; clear px_
      have po_ : Box w11 (w.heap.size + 1 + 1) #[.int .i64 oI0, .int .i64 oI1] 90 := (Box.b po b11)
      clear po; have po := po_; clear po_
      clear hS hG
      refine Zc.cons fun gkw0 kw0 nkw0 => ?_
      have nkw0_0 := nkw0 (w9.heap.size, w10.heap.size) (by simp)
      dsimp only at nkw0_0 kw0
      have nkw0_1 := nkw0 (w7.heap.size, w8.heap.size) (by simp)
      dsimp only at nkw0_1 kw0
      have nkw0_2 := nkw0 (w5.heap.size, w6.heap.size) (by simp)
      dsimp only at nkw0_2 kw0
      have nkw0_3 := nkw0 (w3.heap.size, w4.heap.size) (by simp)
      dsimp only at nkw0_3 kw0
      have nkw0_4 := nkw0 (0, w2.heap.size) (by simp)
      dsimp only at nkw0_4 kw0
      clear nkw0
      refine Zc.nil ?_
      (try unfold ptr)
      (try simp only [Act.put, List.setIfInBounds_toArray, List.set_cons_zero, List.set_cons_succ])
      have lkw0 := kw0.lt
      obtain ⟨ckw0_0, ckw0_1, fkw0_0, fkw0_1⟩ := kw0.two
      refine ⟨_, by go_simp; (first | done | with_reducible rfl | exact ⟨rfl, rfl⟩), ?_⟩
      (try simp only [Act.put, List.setIfInBounds_toArray, List.set_cons_zero, List.set_cons_succ])
      refine wpAny_done (by kernel_rfl) ?_ _
      clear ckw0_0 ckw0_1 fkw0_0 fkw0_1
      generalize hw12 : World.setCell _ _ _ = w12
      have z12 : w11.heap.size ≤ w12.heap.size := by rw [← hw12]; simp
      have B12 : Below w.heap.size w w12 := by rw [← hw12]; repeat (with_reducible (first | assumption | exact Below.refl _ _ | refine Below.alloc ?_ (by first | omega | (simp; done) | (simp; omega)) _ | refine Below.setCell ?_ (by first | omega | (simp; done) | (simp; omega)) _ | refine Below.drew ?_ | refine below_drewN ?_ _))
      have hK : ∀ k, k ≠ gkw0 → k < w11.heap.size → w12.heap[k]? = w11.heap[k]? := by
        intro k h0 _; rw [← hw12]
        repeat (first | rfl | refine (Below.heap_setCell _ _ _ _ (by first | exact h0)).trans ?_)
      have rsk_ := rsk.keepBlock z12 (fun k h1 h2 => hK k (by omega) (by have := rsk.2.1; omega))
      clear rsk; have rsk := rsk_; clear rsk_
      have rsx_ := rsx.keepBlock z12 (fun k h1 h2 => hK k (by omega) (by have := rsx.2.1; omega))
      clear rsx; have rsx := rsx_; clear rsx_
      have rw0_ := rw0.keepBlock z12 (fun k h1 h2 => hK k (by omega) (by have := rw0.2.1; omega))
      clear rw0; have rw0 := rw0_; clear rw0_
      have pk_ : Box w12 (w.heap.size) #[.int .i64 kI0, (.slice kA1 kn1 kc1)] 30 := (by rw [← hw12]; exact ((pk.far (by omega)).far (by omega)))
      clear pk; have pk := pk_; clear pk_
      have px_ : Box w12 (w.heap.size + 1) #[(.slice xA0 xn0 xc0), (.slice xA1 xn1 xc1), (.slice xA2 xn2 xc2), (.slice xA3 xn3 xc3), (.slice xA4 xn4 xc4), (.slice xA5 xn5 xc5)] 64 := (by rw [← hw12]; exact ((px.far (by omega)).far (by omega)))
      clear px; have px := px_; clear px_
      have po_ : Box w12 (w.heap.size + 1 + 1) #[.int .i64 oI0, .int .i64 oI1] 90 := (by rw [← hw12]; exact ((po.far (by omega)).far (by omega)))
      clear po; have po := po_; clear po_
      have kw0_ : Box w12 (gkw0) #[(.slice w0A0 w0n0 w0c0), (.slice w0A1 w0n1 w0c1)] 38 := (by rw [← hw12]; exact ((kw0.setAt (i := 0) (v := (.slice w0A0 w0n0 w0c0)) (ds := #[(.slice w0A0 w0n0 w0c0), .slice none 0 0]) (by simp)).setAt (i := 1) (v := (.slice w0A1 w0n1 w0c1)) (ds := #[(.slice w0A0 w0n0 w0c0), (.slice w0A1 w0n1 w0c1)]) (by simp)))
      clear kw0; have kw0 := kw0_; clear kw0_
      clear hw12 hK
      obtain ⟨cpk_0, cpk_1, fpk_0, fpk_1⟩ := pk.two
      have l_pk_0 : w.heap.size < w12.heap.size := by omega
      go_wp2_with fail
      refine (toKeys_L kI0 (RdL.cons (d := .ints kL1) kL1h.rd.b RdL.nil) kL1n).mono ?_
      rintro e w13 ⟨xkA1, xkn1, xkc1, rfl, rxk, b13⟩
      clear cpk_0 cpk_1 fpk_0 fpk_1 l_pk_0
      have z13 := b13.size
      try simp only [World.size_alloc, World.size_setCell, size_drew] at z13
      have B13 : Below w.heap.size w w13 := Below.t b13
      have rw0_ := rw0.below b13
      clear rw0; have rw0 := rw0_; clear rw0_
      have pk_ : Box w13 (w.heap.size) #[.int .i64 kI0, (.slice kA1 kn1 kc1)] 30 := pk.below b13 (by first | omega | (simp [size_drew]; done) | (simp [size_drew]; omega))
      clear pk; have pk := pk_; clear pk_
      have px_ : Box w13 (w.heap.size + 1) #[(.slice xA0 xn0 xc0), (.slice xA1 xn1 xc1), (.slice xA2 xn2 xc2), (.slice xA3 xn3 xc3), (.slice xA4 xn4 xc4), (.slice xA5 xn5 xc5)] 64 := px.below b13 (by first | omega | (simp [size_drew]; done) | (simp [size_drew]; omega))
      clear px; have px := px_; clear px_
      have po_ : Box w13 (w.heap.size + 1 + 1) #[.int .i64 oI0, .int .i64 oI1] 90 := po.below b13 (by first | omega | (simp [size_drew]; done) | (simp [size_drew]; omega))
      clear po; have po := po_; clear po_
      have kw0_ : Box w13 (gkw0) #[(.slice w0A0 w0n0 w0c0), (.slice w0A1 w0n1 w0c1)] 38 := kw0.below b13 (by first | omega | (simp [size_drew]; done) | (simp [size_drew]; omega))
      clear kw0; have kw0 := kw0_; clear kw0_
      try simp only [World.size_alloc, World.size_setCell, size_drew] at rxk
      obtain ⟨cpx_0, cpx_1, cpx_2, cpx_3, cpx_4, cpx_5, fpx_0, fpx_1, fpx_2, fpx_3, fpx_4, fpx_5⟩ := px.six
      have l_px_0 : w.heap.size + 1 < w13.heap.size := by omega
      have l_px_1 : w.heap.size + 1 < w13.heap.size + 1 := by omega
      go_wp2_with fail
      refine (toTriple_L (RdL.cons (d := .ints xL0) xL0h.rd.b (RdL.cons (d := .ints xL1) xL1h.rd.b (RdL.cons (d := .ints xL2) xL2h.rd.b (RdL.cons (d := .ints xL3) xL3h.rd.b (RdL.cons (d := .ints xL4) xL4h.rd.b (RdL.cons (d := .ints xL5) xL5h.rd.b RdL.nil)))))) xL0n xL1n xL2n xL3n xL4n xL5n).mono ?_
      rintro e w14 ⟨xxA0, xxn0, xxc0, xxA1, xxn1, xxc1, xxA2, xxn2, xxc2, xxA3, xxn3, xxc3, xxA4, xxn4, xxc4, xxA5, xxn5, xxc5, rfl, rxx, b14⟩
      clear cpx_0 cpx_1 cpx_2 cpx_3 cpx_4 cpx_5 fpx_0 fpx_1 fpx_2 fpx_3 fpx_4 fpx_5 l_px_0 l_px_1
      have z14 := b14.size
      try simp only [World.size_alloc, World.size_setCell, size_drew] at z14
      have B14 : Below w.heap.size w w14 := Below.t b14
      have rw0_ := (rw0.alloc _).below b14
      clear rw0; have rw0 := rw0_; clear rw0_
      have rxk_ := (rxk.alloc _).below b14
      clear rxk; have rxk := rxk_; clear rxk_
      have pk_ : Box w14 (w.heap.size) #[.int .i64 kI0, (.slice kA1 kn1 kc1)] 30 := (pk.alloc _).below b14 (by first | omega | (simp [size_drew]; done) | (simp [size_drew]; omega))
      clear pk; have pk := pk_; clear pk_
      have px_ : Box w14 (w.heap.size + 1) #[(.slice xA0 xn0 xc0), (.slice xA1 xn1 xc1), (.slice xA2 xn2 xc2), (.slice xA3 xn3 xc3), (.slice xA4 xn4 xc4), (.slice xA5 xn5 xc5)] 64 := (px.alloc _).below b14 (by first | omega | (simp [size_drew]; done) | (simp [size_drew]; omega))
      clear px; have px := px_; clear px_
      have po_ : Box w14 (w.heap.size + 1 + 1) #[.int .i64 oI0, .int .i64 oI1] 90 := (po.alloc _).below b14 (by first | omega | (simp [size_drew]; done) | (simp [size_drew]; omega))
      clear po; have po := po_; clear po_
      have kw0_ : Box w14 (gkw0) #[(.slice w0A0 w0n0 w0c0), (.slice w0A1 w0n1 w0c1)] 38 := (kw0.alloc _).below b14 (by first | omega | (simp [size_drew]; done) | (simp [size_drew]; omega))
      clear kw0; have kw0 := kw0_; clear kw0_
      have xk_ : Box w14 (w13.heap.size) #[.int .i64 kI0, (.slice xkA1 xkn1 xkc1)] 33 := (Box.new (g := w13.heap.size) _ #[.int .i64 kI0, (.slice xkA1 xkn1 xkc1)] 33 (by simp)).below b14 (by first | omega | (simp [size_drew]; done) | (simp [size_drew]; omega))
      have xk := xk_; clear xk_
      try simp only [World.size_alloc, World.size_setCell, size_drew] at rxx
      obtain ⟨cxk_0, cxk_1, fxk_0, fxk_1⟩ := xk.two
      have l_xk_0 : w13.heap.size < w14.heap.size := by omega
      have l_xk_1 : w13.heap.size < w14.heap.size + 1 := by omega
      obtain ⟨cpo_0, cpo_1, fpo_0, fpo_1⟩ := po.two
      have l_po_0 : w.heap.size + 1 + 1 < w14.heap.size := by omega
      have l_po_1 : w.heap.size + 1 + 1 < w14.heap.size + 1 := by omega
      go_wp2_with fail
      clear cxk_0 cxk_1 fxk_0 fxk_1 l_xk_0 l_xk_1 cpo_0 cpo_1 fpo_0 fpo_1 l_po_0 l_po_1
      refine wp_region_M [6] (w14.heap.size + 1) 7 (S := fun W => Below w.heap.size w W ∧ Below w14.heap.size w14 W ∧ W.cell? ⟨w13.heap.size, 0, none⟩ = some (.int .i64 kI0) ∧ W.cell? ⟨w13.heap.size, 1, none⟩ = some ((.slice xkA1 xkn1 xkc1)) ∧ W.cell? ⟨w14.heap.size, 0, none⟩ = some ((.slice xxA0 xxn0 xxc0)) ∧ W.cell? ⟨w14.heap.size, 1, none⟩ = some ((.slice xxA1 xxn1 xxc1)) ∧ W.cell? ⟨w14.heap.size, 2, none⟩ = some ((.slice xxA2 xxn2 xxc2)) ∧ W.cell? ⟨w14.heap.size, 3, none⟩ = some ((.slice xxA3 xxn3 xxc3)) ∧ W.cell? ⟨w14.heap.size, 4, none⟩ = some ((.slice xxA4 xxn4 xxc4)) ∧ W.cell? ⟨w14.heap.size, 5, none⟩ = some ((.slice xxA5 xxn5 xxc5)) ∧ W.cell? ⟨w.heap.size + 1 + 1, 0, none⟩ = some (.int .i64 oI0) ∧ W.cell? ⟨w.heap.size + 1 + 1, 1, none⟩ = some (.int .i64 oI1)) (by kernel_rfl) (by rfl) (fun W hW => ⟨Below.trans (b := _) (by repeat (with_reducible (first | assumption | exact Below.refl _ _ | refine Below.alloc ?_ (by first | omega | (simp; done) | (simp; omega)) _ | refine Below.setCell ?_ (by first | omega | (simp; done) | (simp; omega)) _ | refine Below.drew ?_ | refine below_drewN ?_ _))) (Below.mono hW (by first | omega | (simp [size_drew]; done) | (simp [size_drew]; omega))), Below.trans (b := _) (by repeat (with_reducible (first | assumption | exact Below.refl _ _ | refine Below.alloc ?_ (by first | omega | (simp; done) | (simp; omega)) _ | refine Below.setCell ?_ (by first | omega | (simp; done) | (simp; omega)) _ | refine Below.drew ?_ | refine below_drewN ?_ _))) (Below.mono hW (by first | omega | (simp [size_drew]; done) | (simp [size_drew]; omega))), (Box.below (xk.alloc _).drew hW (by first | omega | (simp [size_drew]; done) | (simp [size_drew]; omega))).two.1, (Box.below (xk.alloc _).drew hW (by first | omega | (simp [size_drew]; done) | (simp [size_drew]; omega))).two.2.1, (Box.below (Box.new (g := w14.heap.size) _ #[(.slice xxA0 xxn0 xxc0), (.slice xxA1 xxn1 xxc1), (.slice xxA2 xxn2 xxc2), (.slice xxA3 xxn3 xxc3), (.slice xxA4 xxn4 xxc4), (.slice xxA5 xxn5 xxc5)] 68 (by simp)).drew hW (by first | omega | (simp [size_drew]; done) | (simp [size_drew]; omega))).six.1, (Box.below (Box.new (g := w14.heap.size) _ #[(.slice xxA0 xxn0 xxc0), (.slice xxA1 xxn1 xxc1), (.slice xxA2 xxn2 xxc2), (.slice xxA3 xxn3 xxc3), (.slice xxA4 xxn4 xxc4), (.slice xxA5 xxn5 xxc5)] 68 (by simp)).drew hW (by first | omega | (simp [size_drew]; done) | (simp [size_drew]; omega))).six.2.1, (Box.below (Box.new (g := w14.heap.size) _ #[(.slice xxA0 xxn0 xxc0), (.slice xxA1 xxn1 xxc1), (.slice xxA2 xxn2 xxc2), (.slice xxA3 xxn3 xxc3), (.slice xxA4 xxn4 xxc4), (.slice xxA5 xxn5 xxc5)] 68 (by simp)).drew hW (by first | omega | (simp [size_drew]; done) | (simp [size_drew]; omega))).six.2.2.1, (Box.below (Box.new (g := w14.heap.size) _ #[(.slice xxA0 xxn0 xxc0), (.slice xxA1 xxn1 xxc1), (.slice xxA2 xxn2 xxc2), (.slice xxA3 xxn3 xxc3), (.slice xxA4 xxn4 xxc4), (.slice xxA5 xxn5 xxc5)] 68 (by simp)).drew hW (by first | omega | (simp [size_drew]; done) | (simp [size_drew]; omega))).six.2.2.2.1, (Box.below (Box.new (g := w14.heap.size) _ #[(.slice xxA0 xxn0 xxc0), (.slice xxA1 xxn1 xxc1), (.slice xxA2 xxn2 xxc2), (.slice xxA3 xxn3 xxc3), (.slice xxA4 xxn4 xxc4), (.slice xxA5 xxn5 xxc5)] 68 (by simp)).drew hW (by first | omega | (simp [size_drew]; done) | (simp [size_drew]; omega))).six.2.2.2.2.1, (Box.below (Box.new (g := w14.heap.size) _ #[(.slice xxA0 xxn0 xxc0), (.slice xxA1 xxn1 xxc1), (.slice xxA2 xxn2 xxc2), (.slice xxA3 xxn3 xxc3), (.slice xxA4 xxn4 xxc4), (.slice xxA5 xxn5 xxc5)] 68 (by simp)).drew hW (by first | omega | (simp [size_drew]; done) | (simp [size_drew]; omega))).six.2.2.2.2.2.1, (Box.below (po.alloc _).drew hW (by first | omega | (simp [size_drew]; done) | (simp [size_drew]; omega))).two.1, (Box.below (po.alloc _).drew hW (by first | omega | (simp [size_drew]; done) | (simp [size_drew]; omega))).two.2.1⟩) (by first | omega | (simp [size_drew]; done) | (simp [size_drew]; omega)) (fun hS hG => ?_)
      (try dsimp only at hS)
      refine pendM 5 11 #[.slice none 0 0, .slice none 0 0] 38 (by simp only [List.getElem?_toArray, List.getElem?_cons_succ, List.getElem?_cons_zero] <;> rfl) (by kernel_rfl) (by exact fun _ _ _ _ h => h) (by intro a W; unfold ptr; go_simp; (first | done | rfl)) hG ?_
      (refine tkM 0 hG hS ?_; (try simp only [Act.put, List.setIfInBounds_toArray, List.set_cons_zero, List.set_cons_succ]))
      (refine tkM 1 hG hS ?_; (try simp only [Act.put, List.setIfInBounds_toArray, List.set_cons_zero, List.set_cons_succ]))
      (refine tkM 2 hG hS ?_; (try simp only [Act.put, List.setIfInBounds_toArray, List.set_cons_zero, List.set_cons_succ]))
      refine callM hG (i := 3) (by simp only [List.getElem?_toArray, List.getElem?_cons_succ, List.getElem?_cons_zero] <;> rfl) (by kernel_rfl) (by rfl) (by rfl) (by intro W hW; have hSw := hS W hW; (try dsimp only at hSw); go_simp; (first | done | with_reducible rfl | exact ⟨rfl, rfl⟩)) ?_
      intro w15 b15
      have B15 : Below w.heap.size w w15 := (hS w15 b15).1
      have z15 := Below.size b15
      (try simp only [World.size_alloc, World.size_setCell, size_drew] at z15)
      have rw0_ := ((rw0.alloc _).drew.below b15)
      clear rw0; have rw0 := rw0_; clear rw0_
      have rxk_ := ((rxk.alloc _).drew.below b15)
      clear rxk; have rxk := rxk_; clear rxk_
      have rxx_ := ((rxx.alloc _).drew.below b15)
      clear rxx; have rxx := rxx_; clear rxx_
      have pk_ : Box w15 (w.heap.size) #[.int .i64 kI0, (.slice kA1 kn1 kc1)] 30 := (Box.b (pk.alloc _).drew b15)
      clear pk; have pk := pk_; clear pk_
      have px_ : Box w15 (w.heap.size + 1) #[(.slice xA0 xn0 xc0), (.slice xA1 xn1 xc1), (.slice xA2 xn2 xc2), (.slice xA3 xn3 xc3), (.slice xA4 xn4 xc4), (.slice xA5 xn5 xc5)] 64 := (Box.b (px.alloc _).drew b15)
      clear px; have px := px_; clear px_
      have po_ : Box w15 (w.heap.size + 1 + 1) #[.int .i64 oI0, .int .i64 oI1] 90 := (Box.b (po.alloc _).drew b15)
      clear po; have po := po_; clear po_
      have kw0_ : Box w15 (gkw0) #[(.slice w0A0 w0n0 w0c0), (.slice w0A1 w0n1 w0c1)] 38 := (Box.b (kw0.alloc _).drew b15)
      clear kw0; have kw0 := kw0_; clear kw0_
      have xk_ : Box w15 (w13.heap.size) #[.int .i64 kI0, (.slice xkA1 xkn1 xkc1)] 33 := (Box.b (xk.alloc _).drew b15)
      clear xk; have xk := xk_; clear xk_
      have xx_ : Box w15 (w14.heap.size) #[(.slice xxA0 xxn0 xxc0), (.slice xxA1 xxn1 xxc1), (.slice xxA2 xxn2 xxc2), (.slice xxA3 xxn3 xxc3), (.slice xxA4 xxn4 xxc4), (.slice xxA5 xxn5 xxc5)] 68 := (Box.b (Box.new (g := w14.heap.size) _ #[(.slice xxA0 xxn0 xxc0), (.slice xxA1 xxn1 xxc1), (.slice xxA2 xxn2 xxc2), (.slice xxA3 xxn3 xxc3), (.slice xxA4 xxn4 xxc4), (.slice xxA5 xxn5 xxc5)] 68 (by simp)).drew b15)
      have xx := xx_; clear xx_
      clear hS hG
      go_at_call 81
      refine (toOpening_L oI0 oI1).mono ?_
      rintro e w16 ⟨rfl, b16⟩
      refine ⟨_, rfl, b16, fun hG => ?_⟩
      have z16 := Below.size b16
      have B16 : Below w.heap.size w w16 := Below.t b16
      have rw0_ := (rw0.below b16)
      clear rw0; have rw0 := rw0_; clear rw0_
      have rxk_ := (rxk.below b16)
      clear rxk; have rxk := rxk_; clear rxk_
      have rxx_ := (rxx.below b16)
      clear rxx; have rxx := rxx_; clear rxx_
      have pk_ : Box w16 (w.heap.size) #[.int .i64 kI0, (.slice kA1 kn1 kc1)] 30 := (Box.b pk b16)
      clear pk; have pk := pk_; clear pk_
      have px_ : Box w16 (w.heap.size + 1) #[(.slice xA0 xn0 xc0), (.slice xA1 xn1 xc1), (.slice xA2 xn2 xc2), (.slice xA3 xn3 xc3), (.slice xA4 xn4 xc4), (.slice xA5 xn5 xc5)] 64 := (Box.b px b16)
      clear px; have px := px_; clear px_
      have po_ : Box w16 (w.heap.size + 1 + 1) #[.int .i64 oI0, .int .i64 oI1] 90 := (Box.b po b16)
      clear po; have po := po_; clear po_
      have kw0_ : Box w16 (gkw0) #[(.slice w0A0 w0n0 w0c0), (.slice w0A1 w0n1 w0c1)] 38 := (Box.b kw0 b16)
      clear kw0; have kw0 := kw0_; clear kw0_
      have xk_ : Box w16 (w13.heap.size) #[.int .i64 kI0, (.slice xkA1 xkn1 xkc1)] 33 := (Box.b xk b16)
      clear xk; have xk := xk_; clear xk_
      have xx_ : Box w16 (w14.heap.size) #[(.slice xxA0 xxn0 xxc0), (.slice xxA1 xxn1 xxc1), (.slice xxA2 xxn2 xxc2), (.slice xxA3 xxn3 xxc3), (.slice xxA4 xxn4 xxc4), (.slice xxA5 xxn5 xxc5)] 68 := (Box.b xx b16)
      clear xx; have xx := xx_; clear xx_
      (try simp only [Act.put, List.setIfInBounds_toArray, List.set_cons_zero, List.set_cons_succ])
      have hS : ∀ W, Later w16 W → (Below w.heap.size w W ∧ Below w16.heap.size w16 W ∧ W.cell? ⟨w13.heap.size, 0, none⟩ = some (.int .i64 kI0) ∧ W.cell? ⟨w13.heap.size, 1, none⟩ = some ((.slice xkA1 xkn1 xkc1)) ∧ W.cell? ⟨w14.heap.size, 0, none⟩ = some ((.slice xxA0 xxn0 xxc0)) ∧ W.cell? ⟨w14.heap.size, 1, none⟩ = some ((.slice xxA1 xxn1 xxc1)) ∧ W.cell? ⟨w14.heap.size, 2, none⟩ = some ((.slice xxA2 xxn2 xxc2)) ∧ W.cell? ⟨w14.heap.size, 3, none⟩ = some ((.slice xxA3 xxn3 xxc3)) ∧ W.cell? ⟨w14.heap.size, 4, none⟩ = some ((.slice xxA4 xxn4 xxc4)) ∧ W.cell? ⟨w14.heap.size, 5, none⟩ = some ((.slice xxA5 xxn5 xxc5)) ∧ W.cell? ⟨w.heap.size + 1 + 1, 0, none⟩ = some (.int .i64 oI0) ∧ W.cell? ⟨w.heap.size + 1 + 1, 1, none⟩ = some (.int .i64 oI1)) := fun W hW => ⟨Below.trans (b := _) (by repeat (with_reducible (first | assumption | exact Below.refl _ _ | refine Below.alloc ?_ (by first | omega | (simp; done) | (simp; omega)) _ | refine Below.setCell ?_ (by first | omega | (simp; done) | (simp; omega)) _ | refine Below.drew ?_ | refine below_drewN ?_ _))) (Below.mono hW (by first | omega | (simp [size_drew]; done) | (simp [size_drew]; omega))), Below.trans (b := _) (by repeat (with_reducible (first | assumption | exact Below.refl _ _ | refine Below.alloc ?_ (by first | omega | (simp; done) | (simp; omega)) _ | refine Below.setCell ?_ (by first | omega | (simp; done) | (simp; omega)) _ | refine Below.drew ?_ | refine below_drewN ?_ _))) (Below.mono hW (by first | omega | (simp [size_drew]; done) | (simp [size_drew]; omega))), (Box.below xk hW (by first | omega | (simp [size_drew]; done) | (simp [size_drew]; omega))).two.1, (Box.below xk hW (by first | omega | (simp [size_drew]; done) | (simp [size_drew]; omega))).two.2.1, (Box.below xx hW (by first | omega | (simp [size_drew]; done) | (simp [size_drew]; omega))).six.1, (Box.below xx hW (by first | omega | (simp [size_drew]; done) | (simp [size_drew]; omega))).six.2.1, (Box.below xx hW (by first | omega | (simp [size_drew]; done) | (simp [size_drew]; omega))).six.2.2.1, (Box.below xx hW (by first | omega | (simp [size_drew]; done) | (simp [size_drew]; omega))).six.2.2.2.1, (Box.below xx hW (by first | omega | (simp [size_drew]; done) | (simp [size_drew]; omega))).six.2.2.2.2.1, (Box.below xx hW (by first | omega | (simp [size_drew]; done) | (simp [size_drew]; omega))).six.2.2.2.2.2.1, (Box.below po hW (by first | omega | (simp [size_drew]; done) | (simp [size_drew]; omega))).two.1, (Box.below po hW (by first | omega | (simp [size_drew]; done) | (simp [size_drew]; omega))).two.2.1⟩
      refine callM hG (i := 4) (by simp only [List.getElem?_toArray, List.getElem?_cons_succ, List.getElem?_cons_zero] <;> rfl) (by kernel_rfl) (by rfl) (by rfl) (by intro W hW; have hSw := hS W hW; (try dsimp only at hSw); go_simp; (first | done | with_reducible rfl | exact ⟨rfl, rfl⟩)) ?_
      intro w17 b17
      have B17 : Below w.heap.size w w17 := (hS w17 b17).1
      have z17 := Below.size b17
      (try simp only [World.size_alloc, World.size_setCell, size_drew] at z17)
      have rw0_ := (rw0.below b17)
      clear rw0; have rw0 := rw0_; clear rw0_
      have rxk_ := (rxk.below b17)
      clear rxk; have rxk := rxk_; clear rxk_
      have rxx_ := (rxx.below b17)
      clear rxx; have rxx := rxx_; clear rxx_
      have pk_ : Box w17 (w.heap.size) #[.int .i64 kI0, (.slice kA1 kn1 kc1)] 30 := (Box.b pk b17)
      clear pk; have pk := pk_; clear pk_
      have px_ : Box w17 (w.heap.size + 1) #[(.slice xA0 xn0 xc0), (.slice xA1 xn1 xc1), (.slice xA2 xn2 xc2), (.slice xA3 xn3 xc3), (.slice xA4 xn4 xc4), (.slice xA5 xn5 xc5)] 64 := (Box.b px b17)
      clear px; have px := px_; clear px_
      have po_ : Box w17 (w.heap.size + 1 + 1) #[.int .i64 oI0, .int .i64 oI1] 90 := (Box.b po b17)
      clear po; have po := po_; clear po_
      have kw0_ : Box w17 (gkw0) #[(.slice w0A0 w0n0 w0c0), (.slice w0A1 w0n1 w0c1)] 38 := (Box.b kw0 b17)
      clear kw0; have kw0 := kw0_; clear kw0_
      have xk_ : Box w17 (w13.heap.size) #[.int .i64 kI0, (.slice xkA1 xkn1 xkc1)] 33 := (Box.b xk b17)
      clear xk; have xk := xk_; clear xk_
      have xx_ : Box w17 (w14.heap.size) #[(.slice xxA0 xxn0 xxc0), (.slice xxA1 xxn1 xxc1), (.slice xxA2 xxn2 xxc2), (.slice xxA3 xxn3 xxc3), (.slice xxA4 xxn4 xxc4), (.slice xxA5 xxn5 xxc5)] 68 := (Box.b xx b17)
      clear xx; have xx := xx_; clear xx_
      clear hS hG
      go_at_call 82
      refine (iTripleUse_L kI0 rxk.rd kL1n rxx.rd xL0n xL1n xL2n xL3n xL4n xL5n oI0 oI1).mono ?_
      rintro e w18 ⟨g0A0, g0n0, g0c0, g0A1, g0n1, g0c1, rfl, rg0, b18⟩
      refine ⟨_, rfl, b18, fun hG => ?_⟩
      have z18 := Below.size b18
      have B18 : Below w.heap.size w w18 := Below.t b18
      have rw0_ := (rw0.below b18)
      clear rw0; have rw0 := rw0_; clear rw0_
      have rxk_ := (rxk.below b18)
      clear rxk; have rxk := rxk_; clear rxk_
      have rxx_ := (rxx.below b18)
      clear rxx; have rxx := rxx_; clear rxx_
      have pk_ : Box w18 (w.heap.size) #[.int .i64 kI0, (.slice kA1 kn1 kc1)] 30 := (Box.b pk b18)
      clear pk; have pk := pk_; clear pk_
      have px_ : Box w18 (w.heap.size + 1) #[(.slice xA0 xn0 xc0), (.slice xA1 xn1 xc1), (.slice xA2 xn2 xc2), (.slice xA3 xn3 xc3), (.slice xA4 xn4 xc4), (.slice xA5 xn5 xc5)] 64 := (Box.b px b18)
      clear px; have px := px_; clear px_
      have po_ : Box w18 (w.heap.size + 1 + 1) #[.int .i64 oI0, .int .i64 oI1] 90 := (Box.b po b18)
      clear po; have po := po_; clear po_
      have kw0_ : Box w18 (gkw0) #[(.slice w0A0 w0n0 w0c0), (.slice w0A1 w0n1 w0c1)] 38 := (Box.b kw0 b18)
      clear kw0; have kw0 := kw0_; clear kw0_
      have xk_ : Box w18 (w13.heap.size) #[.int .i64 kI0, (.slice xkA1 xkn1 xkc1)] 33 := (Box.b xk b18)
      clear xk; have xk := xk_; clear xk_
      have xx_ : Box w18 (w14.heap.size) #[(.slice xxA0 xxn0 xxc0), (.slice xxA1 xxn1 xxc1), (.slice xxA2 xxn2 xxc2), (.slice xxA3 xxn3 xxc3), (.slice xxA4 xxn4 xxc4), (.slice xxA5 xxn5 xxc5)] 68 := (Box.b xx b18)
      clear xx; have xx := xx_; clear xx_
      (try simp only [Act.put, List.setIfInBounds_toArray, List.set_cons_zero, List.set_cons_succ])
      have hS : ∀ W, Later w18 W → (Below w.heap.size w W ∧ Below w18.heap.size w18 W ∧ W.cell? ⟨w13.heap.size, 0, none⟩ = some (.int .i64 kI0) ∧ W.cell? ⟨w13.heap.size, 1, none⟩ = some ((.slice xkA1 xkn1 xkc1)) ∧ W.cell? ⟨w14.heap.size, 0, none⟩ = some ((.slice xxA0 xxn0 xxc0)) ∧ W.cell? ⟨w14.heap.size, 1, none⟩ = some ((.slice xxA1 xxn1 xxc1)) ∧ W.cell? ⟨w14.heap.size, 2, none⟩ = some ((.slice xxA2 xxn2 xxc2)) ∧ W.cell? ⟨w14.heap.size, 3, none⟩ = some ((.slice xxA3 xxn3 xxc3)) ∧ W.cell? ⟨w14.heap.size, 4, none⟩ = some ((.slice xxA4 xxn4 xxc4)) ∧ W.cell? ⟨w14.heap.size, 5, none⟩ = some ((.slice xxA5 xxn5 xxc5)) ∧ W.cell? ⟨w.heap.size + 1 + 1, 0, none⟩ = some (.int .i64 oI0) ∧ W.cell? ⟨w.heap.size + 1 + 1, 1, none⟩ = some (.int .i64 oI1)) := fun W hW => ⟨Below.trans (b := _) (by repeat (with_reducible (first | assumption | exact Below.refl _ _ | refine Below.alloc ?_ (by first | omega | (simp; done) | (simp; omega)) _ | refine Below.setCell ?_ (by first | omega | (simp; done) | (simp; omega)) _ | refine Below.drew ?_ | refine below_drewN ?_ _))) (Below.mono hW (by first | omega | (simp [size_drew]; done) | (simp [size_drew]; omega))), Below.trans (b := _) (by repeat (with_reducible (first | assumption | exact Below.refl _ _ | refine Below.alloc ?_ (by first | omega | (simp; done) | (simp; omega)) _ | refine Below.setCell ?_ (by first | omega | (simp; done) | (simp; omega)) _ | refine Below.drew ?_ | refine below_drewN ?_ _))) (Below.mono hW (by first | omega | (simp [size_drew]; done) | (simp [size_drew]; omega))), (Box.below xk hW (by first | omega | (simp [size_drew]; done) | (simp [size_drew]; omega))).two.1, (Box.below xk hW (by first | omega | (simp [size_drew]; done) | (simp [size_drew]; omega))).two.2.1, (Box.below xx hW (by first | omega | (simp [size_drew]; done) | (simp [size_drew]; omega))).six.1, (Box.below xx hW (by first | omega | (simp [size_drew]; done) | (simp [size_drew]; omega))).six.2.1, (Box.below xx hW (by first | omega | (simp [size_drew]; done) | (simp [size_drew]; omega))).six.2.2.1, (Box.below xx hW (by first | omega | (simp [size_drew]; done) | (simp [size_drew]; omega))).six.2.2.2.1, (Box.below xx hW (by first | omega | (simp [size_drew]; done) | (simp [size_drew]; omega))).six.2.2.2.2.1, (Box.below xx hW (by first | omega | (simp [size_drew]; done) | (simp [size_drew]; omega))).six.2.2.2.2.2.1, (Box.below po hW (by first | omega | (simp [size_drew]; done) | (simp [size_drew]; omega))).two.1, (Box.below po hW (by first | omega | (simp [size_drew]; done) | (simp [size_drew]; omega))).two.2.1⟩
      refine storeM (z := 6) (by simp only [List.getElem?_toArray, List.getElem?_cons_succ, List.getElem?_cons_zero] <;> rfl) (by kernel_rfl) (by rfl) (by rfl) ?_
      intro w19 b19
      have B19 : Below w.heap.size w w19 := (hS w19 b19).1
      have z19 := Below.size b19
      (try simp only [World.size_alloc, World.size_setCell, size_drew] at z19)
      have rw0_ := (rw0.below b19)
      clear rw0; have rw0 := rw0_; clear rw0_
      have rxk_ := (rxk.below b19)
      clear rxk; have rxk := rxk_; clear rxk_
      have rxx_ := (rxx.below b19)
      clear rxx; have rxx := rxx_; clear rxx_
      have rg0_ := (rg0.below b19)
      clear rg0; have rg0 := rg0_; clear rg0_
      have pk_ : Box w19 (w.heap.size) #[.int .i64 kI0, (.slice kA1 kn1 kc1)] 30 := (Box.b pk b19)
      clear pk; have pk := pk_; clear pk_
      have px_ : Box w19 (w.heap.size + 1) #[(.slice xA0 xn0 xc0), (.slice xA1 xn1 xc1), (.slice xA2 xn2 xc2), (.slice xA3 xn3 xc3), (.slice xA4 xn4 xc4), (.slice xA5 xn5 xc5)] 64 := (Box.b px b19)
      clear px; have px := px_; clear px_
      have po_ : Box w19 (w.heap.size + 1 + 1) #[.int .i64 oI0, .int .i64 oI1] 90 := (Box.b po b19)
      clear po; have po := po_; clear po_
      have kw0_ : Box w19 (gkw0) #[(.slice w0A0 w0n0 w0c0), (.slice w0A1 w0n1 w0c1)] 38 := (Box.b kw0 b19)
      clear kw0; have kw0 := kw0_; clear kw0_
      have xk_ : Box w19 (w13.heap.size) #[.int .i64 kI0, (.slice xkA1 xkn1 xkc1)] 33 := (Box.b xk b19)
      clear xk; have xk := xk_; clear xk_
      have xx_ : Box w19 (w14.heap.size) #[(.slice xxA0 xxn0 xxc0), (.slice xxA1 xxn1 xxc1), (.slice xxA2 xxn2 xxc2), (.slice xxA3 xxn3 xxc3), (.slice xxA4 xxn4 xxc4), (.slice xxA5 xxn5 xxc5)] 68 := (Box.b xx b19)
      clear xx; have xx := xx_; clear xx_
      clear hS hG
      refine Zc.cons fun gkg0 kg0 nkg0 => ?_
      have nkg0_0 := nkg0 (w17.heap.size, w18.heap.size) (by simp)
      dsimp only at nkg0_0 kg0
      have nkg0_1 := nkg0 (w15.heap.size, w16.heap.size) (by simp)
      dsimp only at nkg0_1 kg0
      have nkg0_2 := nkg0 (0, w14.heap.size + 1) (by simp)
      dsimp only at nkg0_2 kg0
      clear nkg0
      refine Zc.nil ?_
      (try unfold ptr)
      (try simp only [Act.put, List.setIfInBounds_toArray, List.set_cons_zero, List.set_cons_succ])
      have lkg0 := kg0.lt
      obtain ⟨ckg0_0, ckg0_1, fkg0_0, fkg0_1⟩ := kg0.two
      refine ⟨_, by go_simp; (first | done | with_reducible rfl | exact ⟨rfl, rfl⟩), ?_⟩
      (try simp only [Act.put, List.setIfInBounds_toArray, List.set_cons_zero, List.set_cons_succ])
      refine wpAny_done (by kernel_rfl) ?_ _
      clear ckg0_0 ckg0_1 fkg0_0 fkg0_1
      generalize hw20 : World.setCell _ _ _ = w20
      have z20 : w19.heap.size ≤ w20.heap.size := by rw [← hw20]; simp
      have B20 : Below w.heap.size w w20 := by rw [← hw20]; repeat (with_reducible (first | assumption | exact Below.refl _ _ | refine Below.alloc ?_ (by first | omega | (simp; done) | (simp; omega)) _ | refine Below.setCell ?_ (by first | omega | (simp; done) | (simp; omega)) _ | refine Below.drew ?_ | refine below_drewN ?_ _))
      have hK : ∀ k, k ≠ gkg0 → k < w19.heap.size → w20.heap[k]? = w19.heap[k]? := by
        intro k h0 _; rw [← hw20]
        repeat (first | rfl | refine (Below.heap_setCell _ _ _ _ (by first | exact h0)).trans ?_)
      have rw0_ := rw0.keepBlock z20 (fun k h1 h2 => hK k (by omega) (by have := rw0.2.1; omega))
      clear rw0; have rw0 := rw0_; clear rw0_
      have rxk_ := rxk.keepBlock z20 (fun k h1 h2 => hK k (by omega) (by have := rxk.2.1; omega))
      clear rxk; have rxk := rxk_; clear rxk_
      have rxx_ := rxx.keepBlock z20 (fun k h1 h2 => hK k (by omega) (by have := rxx.2.1; omega))
      clear rxx; have rxx := rxx_; clear rxx_
      have rg0_ := rg0.keepBlock z20 (fun k h1 h2 => hK k (by omega) (by have := rg0.2.1; omega))
      clear rg0; have rg0 := rg0_; clear rg0_
      have pk_ : Box w20 (w.heap.size) #[.int .i64 kI0, (.slice kA1 kn1 kc1)] 30 := (by rw [← hw20]; exact ((pk.far (by omega)).far (by omega)))
      clear pk; have pk := pk_; clear pk_
      have px_ : Box w20 (w.heap.size + 1) #[(.slice xA0 xn0 xc0), (.slice xA1 xn1 xc1), (.slice xA2 xn2 xc2), (.slice xA3 xn3 xc3), (.slice xA4 xn4 xc4), (.slice xA5 xn5 xc5)] 64 := (by rw [← hw20]; exact ((px.far (by omega)).far (by omega)))
      clear px; have px := px_; clear px_
      have po_ : Box w20 (w.heap.size + 1 + 1) #[.int .i64 oI0, .int .i64 oI1] 90 := (by rw [← hw20]; exact ((po.far (by omega)).far (by omega)))
      clear po; have po := po_; clear po_
      have kw0_ : Box w20 (gkw0) #[(.slice w0A0 w0n0 w0c0), (.slice w0A1 w0n1 w0c1)] 38 := (by rw [← hw20]; exact ((kw0.far (by omega)).far (by omega)))
      clear kw0; have kw0 := kw0_; clear kw0_
      have xk_ : Box w20 (w13.heap.size) #[.int .i64 kI0, (.slice xkA1 xkn1 xkc1)] 33 := (by rw [← hw20]; exact ((xk.far (by omega)).far (by omega)))
      clear xk; have xk := xk_; clear xk_
      have xx_ : Box w20 (w14.heap.size) #[(.slice xxA0 xxn0 xxc0), (.slice xxA1 xxn1 xxc1), (.slice xxA2 xxn2 xxc2), (.slice xxA3 xxn3 xxc3), (.slice xxA4 xxn4 xxc4), (.slice xxA5 xxn5 xxc5)] 68 := (by rw [← hw20]; exact ((xx.far (by omega)).far (by omega)))
      clear xx; have xx := xx_; clear xx_
      have kg0_ : Box w20 (gkg0) #[(.slice g0A0 g0n0 g0c0), (.slice g0A1 g0n1 g0c1)] 38 := (by rw [← hw20]; exact ((kg0.setAt (i := 0) (v := (.slice g0A0 g0n0 g0c0)) (ds := #[(.slice g0A0 g0n0 g0c0), .slice none 0 0]) (by simp)).setAt (i := 1) (v := (.slice g0A1 g0n1 g0c1)) (ds := #[(.slice g0A0 g0n0 g0c0), (.slice g0A1 g0n1 g0c1)]) (by simp)))
      clear kg0; have kg0 := kg0_; clear kg0_
      clear hw20 hK
      obtain ⟨ckg0_0, ckg0_1, fkg0_0, fkg0_1⟩ := kg0.two
      have l_kg0_0 : gkg0 < w20.heap.size := by omega
      obtain ⟨ckw0_0, ckw0_1, fkw0_0, fkw0_1⟩ := kw0.two
      have l_kw0_0 : gkw0 < w20.heap.size := by omega
      go_wp2_with fail
      refine (eqAuth_L rg0.rd rw0.rd rL0_0n rL0_1n).mono ?_
      rintro e w21 ⟨rfl, b21⟩
      clear ckg0_0 ckg0_1 fkg0_0 fkg0_1 l_kg0_0 ckw0_0 ckw0_1 fkw0_0 fkw0_1 l_kw0_0
      have z21 := b21.size
      try simp only [World.size_alloc, World.size_setCell, size_drew] at z21
      have B21 : Below w.heap.size w w21 := Below.t b21
      have rw0_ := rw0.below b21
      clear rw0; have rw0 := rw0_; clear rw0_
      have rxk_ := rxk.below b21
      clear rxk; have rxk := rxk_; clear rxk_
      have rxx_ := rxx.below b21
      clear rxx; have rxx := rxx_; clear rxx_
      have rg0_ := rg0.below b21
      clear rg0; have rg0 := rg0_; clear rg0_
      have pk_ : Box w21 (w.heap.size) #[.int .i64 kI0, (.slice kA1 kn1 kc1)] 30 := pk.below b21 (by first | omega | (simp [size_drew]; done) | (simp [size_drew]; omega))
      clear pk; have pk := pk_; clear pk_
      have px_ : Box w21 (w.heap.size + 1) #[(.slice xA0 xn0 xc0), (.slice xA1 xn1 xc1), (.slice xA2 xn2 xc2), (.slice xA3 xn3 xc3), (.slice xA4 xn4 xc4), (.slice xA5 xn5 xc5)] 64 := px.below b21 (by first | omega | (simp [size_drew]; done) | (simp [size_drew]; omega))
      clear px; have px := px_; clear px_
      have po_ : Box w21 (w.heap.size + 1 + 1) #[.int .i64 oI0, .int .i64 oI1] 90 := po.below b21 (by first | omega | (simp [size_drew]; done) | (simp [size_drew]; omega))
      clear po; have po := po_; clear po_
      have kw0_ : Box w21 (gkw0) #[(.slice w0A0 w0n0 w0c0), (.slice w0A1 w0n1 w0c1)] 38 := kw0.below b21 (by first | omega | (simp [size_drew]; done) | (simp [size_drew]; omega))
      clear kw0; have kw0 := kw0_; clear kw0_
      have xk_ : Box w21 (w13.heap.size) #[.int .i64 kI0, (.slice xkA1 xkn1 xkc1)] 33 := xk.below b21 (by first | omega | (simp [size_drew]; done) | (simp [size_drew]; omega))
      clear xk; have xk := xk_; clear xk_
      have xx_ : Box w21 (w14.heap.size) #[(.slice xxA0 xxn0 xxc0), (.slice xxA1 xxn1 xxc1), (.slice xxA2 xxn2 xxc2), (.slice xxA3 xxn3 xxc3), (.slice xxA4 xxn4 xxc4), (.slice xxA5 xxn5 xxc5)] 68 := xx.below b21 (by first | omega | (simp [size_drew]; done) | (simp [size_drew]; omega))
      clear xx; have xx := xx_; clear xx_
      have kg0_ : Box w21 (gkg0) #[(.slice g0A0 g0n0 g0c0), (.slice g0A1 g0n1 g0c1)] 38 := kg0.below b21 (by first | omega | (simp [size_drew]; done) | (simp [size_drew]; omega))
      clear kg0; have kg0 := kg0_; clear kg0_
      obtain ⟨cpk_0, cpk_1, fpk_0, fpk_1⟩ := pk.two
      have l_pk_0 : w.heap.size < w21.heap.size := by omega
      obtain ⟨cxk_0, cxk_1, fxk_0, fxk_1⟩ := xk.two
      have l_xk_0 : w13.heap.size < w21.heap.size := by omega
      go_wp2_with fail
      clear cpk_0 cpk_1 fpk_0 fpk_1 l_pk_0 cxk_0 cxk_1 fxk_0 fxk_1 l_xk_0
      refine wp_region_held_drew (S := fun W => W.cell? ⟨w.heap.size, 0, none⟩ = some (.int .i64 kI0) ∧ W.cell? ⟨w.heap.size, 1, none⟩ = some ((.slice kA1 kn1 kc1)) ∧ W.cell? ⟨w13.heap.size, 0, none⟩ = some (.int .i64 kI0) ∧ W.cell? ⟨w13.heap.size, 1, none⟩ = some ((.slice xkA1 xkn1 xkc1))) (by kernel_rfl) ⟨pk.drew.two.1, pk.drew.two.2.1, xk.drew.two.1, xk.drew.two.2.1⟩ (fun hS => ?_)
      (refine tk 0 hS ?_; (try simp only [Act.put, List.setIfInBounds_toArray, List.set_cons_zero, List.set_cons_succ]))
      (refine tk 1 hS ?_; (try simp only [Act.put, List.setIfInBounds_toArray, List.set_cons_zero, List.set_cons_succ]))
      refine on 2 ?_
      refine callH (by go_simp; (first | done | with_reducible rfl | exact ⟨rfl, rfl⟩)) ?_
      go_at_call 35
      refine (toKeys_L kI0 (RdL.cons (d := .ints kL1) kL1h.rd.b RdL.nil) kL1n).mono ?_
      rintro e w22 ⟨zkA1, zkn1, zkc1, rfl, rzk, b22⟩
      clear hS
      have z22 := Below.size b22
      (try simp only [World.size_alloc, World.size_setCell, size_drew] at z22)
      have B22 : Below w.heap.size w w22 := Below.t b22
      have rw0_ := (rw0.drew.below b22)
      clear rw0; have rw0 := rw0_; clear rw0_
      have rxk_ := (rxk.drew.below b22)
      clear rxk; have rxk := rxk_; clear rxk_
      have rxx_ := (rxx.drew.below b22)
      clear rxx; have rxx := rxx_; clear rxx_
      have rg0_ := (rg0.drew.below b22)
      clear rg0; have rg0 := rg0_; clear rg0_
      have pk_ : Box w22 (w.heap.size) #[.int .i64 kI0, (.slice kA1 kn1 kc1)] 30 := (Box.b pk.drew b22)
      clear pk; have pk := pk_; clear pk_
      have px_ : Box w22 (w.heap.size + 1) #[(.slice xA0 xn0 xc0), (.slice xA1 xn1 xc1), (.slice xA2 xn2 xc2), (.slice xA3 xn3 xc3), (.slice xA4 xn4 xc4), (.slice xA5 xn5 xc5)] 64 := (Box.b px.drew b22)
      clear px; have px := px_; clear px_
      have po_ : Box w22 (w.heap.size + 1 + 1) #[.int .i64 oI0, .int .i64 oI1] 90 := (Box.b po.drew b22)
      clear po; have po := po_; clear po_
      have kw0_ : Box w22 (gkw0) #[(.slice w0A0 w0n0 w0c0), (.slice w0A1 w0n1 w0c1)] 38 := (Box.b kw0.drew b22)
      clear kw0; have kw0 := kw0_; clear kw0_
      have xk_ : Box w22 (w13.heap.size) #[.int .i64 kI0, (.slice xkA1 xkn1 xkc1)] 33 := (Box.b xk.drew b22)
      clear xk; have xk := xk_; clear xk_
      have xx_ : Box w22 (w14.heap.size) #[(.slice xxA0 xxn0 xxc0), (.slice xxA1 xxn1 xxc1), (.slice xxA2 xxn2 xxc2), (.slice xxA3 xxn3 xxc3), (.slice xxA4 xxn4 xxc4), (.slice xxA5 xxn5 xxc5)] 68 := (Box.b xx.drew b22)
      clear xx; have xx := xx_; clear xx_
      have kg0_ : Box w22 (gkg0) #[(.slice g0A0 g0n0 g0c0), (.slice g0A1 g0n1 g0c1)] 38 := (Box.b kg0.drew b22)
      clear kg0; have kg0 := kg0_; clear kg0_
      (try simp only [World.size_alloc, World.size_setCell, size_drew] at rzk)
      refine ⟨_, rfl, ⟨pk.two.1, pk.two.2.1, xk.two.1, xk.two.2.1⟩, fun hS => ?_⟩
      (try simp only [Act.put, List.setIfInBounds_toArray, List.set_cons_zero, List.set_cons_succ])
      refine on 3 ?_
      refine callH (by go_simp; (first | done | with_reducible rfl | exact ⟨rfl, rfl⟩)) ?_
      go_at_call 37
      refine (eqKeys_L kI0 rxk.rd rzk.rd kL1n).mono ?_
      rintro e w23 ⟨rfl, b23⟩
      clear hS
      have z23 := Below.size b23
      (try simp only [World.size_alloc, World.size_setCell, size_drew] at z23)
      have B23 : Below w.heap.size w w23 := Below.t b23
      have rw0_ := (rw0.below b23)
      clear rw0; have rw0 := rw0_; clear rw0_
      have rxk_ := (rxk.below b23)
      clear rxk; have rxk := rxk_; clear rxk_
      have rxx_ := (rxx.below b23)
      clear rxx; have rxx := rxx_; clear rxx_
      have rg0_ := (rg0.below b23)
      clear rg0; have rg0 := rg0_; clear rg0_
      have rzk_ := (rzk.below b23)
      clear rzk; have rzk := rzk_; clear rzk_
      have pk_ : Box w23 (w.heap.size) #[.int .i64 kI0, (.slice kA1 kn1 kc1)] 30 := (Box.b pk b23)
      clear pk; have pk := pk_; clear pk_
      have px_ : Box w23 (w.heap.size + 1) #[(.slice xA0 xn0 xc0), (.slice xA1 xn1 xc1), (.slice xA2 xn2 xc2), (.slice xA3 xn3 xc3), (.slice xA4 xn4 xc4), (.slice xA5 xn5 xc5)] 64 := (Box.b px b23)
      clear px; have px := px_; clear px_
      have po_ : Box w23 (w.heap.size + 1 + 1) #[.int .i64 oI0, .int .i64 oI1] 90 := (Box.b po b23)
      clear po; have po := po_; clear po_
      have kw0_ : Box w23 (gkw0) #[(.slice w0A0 w0n0 w0c0), (.slice w0A1 w0n1 w0c1)] 38 := (Box.b kw0 b23)
      clear kw0; have kw0 := kw0_; clear kw0_
      have xk_ : Box w23 (w13.heap.size) #[.int .i64 kI0, (.slice xkA1 xkn1 xkc1)] 33 := (Box.b xk b23)
      clear xk; have xk := xk_; clear xk_
      have xx_ : Box w23 (w14.heap.size) #[(.slice xxA0 xxn0 xxc0), (.slice xxA1 xxn1 xxc1), (.slice xxA2 xxn2 xxc2), (.slice xxA3 xxn3 xxc3), (.slice xxA4 xxn4 xxc4), (.slice xxA5 xxn5 xxc5)] 68 := (Box.b xx b23)
      clear xx; have xx := xx_; clear xx_
      have kg0_ : Box w23 (gkg0) #[(.slice g0A0 g0n0 g0c0), (.slice g0A1 g0n1 g0c1)] 38 := (Box.b kg0 b23)
      clear kg0; have kg0 := kg0_; clear kg0_
      refine ⟨_, rfl, ⟨pk.two.1, pk.two.2.1, xk.two.1, xk.two.2.1⟩, fun hS => ?_⟩
      (try simp only [Act.put, List.setIfInBounds_toArray, List.set_cons_zero, List.set_cons_succ])
      (refine tk 4 hS ?_; (try simp only [Act.put, List.setIfInBounds_toArray, List.set_cons_zero, List.set_cons_succ]))
      clear hS
      refine wpAnyH_done (by kernel_rfl) ?_ _
      obtain ⟨cpx_0, cpx_1, cpx_2, cpx_3, cpx_4, cpx_5, fpx_0, fpx_1, fpx_2, fpx_3, fpx_4, fpx_5⟩ := px.six
      have l_px_0 : w.heap.size + 1 < w23.heap.size := by omega
      obtain ⟨cxx_0, cxx_1, cxx_2, cxx_3, cxx_4, cxx_5, fxx_0, fxx_1, fxx_2, fxx_3, fxx_4, fxx_5⟩ := xx.six
      have l_xx_0 : w14.heap.size < w23.heap.size := by omega
      go_wp2_with fail
      clear cpx_0 cpx_1 cpx_2 cpx_3 cpx_4 cpx_5 fpx_0 fpx_1 fpx_2 fpx_3 fpx_4 fpx_5 l_px_0 cxx_0 cxx_1 cxx_2 cxx_3 cxx_4 cxx_5 fxx_0 fxx_1 fxx_2 fxx_3 fxx_4 fxx_5 l_xx_0
      refine wp_region_held_drew (S := fun W => W.cell? ⟨w.heap.size + 1, 0, none⟩ = some ((.slice xA0 xn0 xc0)) ∧ W.cell? ⟨w.heap.size + 1, 1, none⟩ = some ((.slice xA1 xn1 xc1)) ∧ W.cell? ⟨w.heap.size + 1, 2, none⟩ = some ((.slice xA2 xn2 xc2)) ∧ W.cell? ⟨w.heap.size + 1, 3, none⟩ = some ((.slice xA3 xn3 xc3)) ∧ W.cell? ⟨w.heap.size + 1, 4, none⟩ = some ((.slice xA4 xn4 xc4)) ∧ W.cell? ⟨w.heap.size + 1, 5, none⟩ = some ((.slice xA5 xn5 xc5)) ∧ W.cell? ⟨w14.heap.size, 0, none⟩ = some ((.slice xxA0 xxn0 xxc0)) ∧ W.cell? ⟨w14.heap.size, 1, none⟩ = some ((.slice xxA1 xxn1 xxc1)) ∧ W.cell? ⟨w14.heap.size, 2, none⟩ = some ((.slice xxA2 xxn2 xxc2)) ∧ W.cell? ⟨w14.heap.size, 3, none⟩ = some ((.slice xxA3 xxn3 xxc3)) ∧ W.cell? ⟨w14.heap.size, 4, none⟩ = some ((.slice xxA4 xxn4 xxc4)) ∧ W.cell? ⟨w14.heap.size, 5, none⟩ = some ((.slice xxA5 xxn5 xxc5))) (by kernel_rfl) ⟨px.drew.six.1, px.drew.six.2.1, px.drew.six.2.2.1, px.drew.six.2.2.2.1, px.drew.six.2.2.2.2.1, px.drew.six.2.2.2.2.2.1, xx.drew.six.1, xx.drew.six.2.1, xx.drew.six.2.2.1, xx.drew.six.2.2.2.1, xx.drew.six.2.2.2.2.1, xx.drew.six.2.2.2.2.2.1⟩ (fun hS => ?_)
      (refine tk 0 hS ?_; (try simp only [Act.put, List.setIfInBounds_toArray, List.set_cons_zero, List.set_cons_succ]))
      (refine tk 1 hS ?_; (try simp only [Act.put, List.setIfInBounds_toArray, List.set_cons_zero, List.set_cons_succ]))
      refine on 2 ?_
      refine callH (by go_simp; (first | done | with_reducible rfl | exact ⟨rfl, rfl⟩)) ?_
      go_at_call 60
      refine (toTriple_L (RdL.cons (d := .ints xL0) xL0h.rd.b (RdL.cons (d := .ints xL1) xL1h.rd.b (RdL.cons (d := .ints xL2) xL2h.rd.b (RdL.cons (d := .ints xL3) xL3h.rd.b (RdL.cons (d := .ints xL4) xL4h.rd.b (RdL.cons (d := .ints xL5) xL5h.rd.b RdL.nil)))))) xL0n xL1n xL2n xL3n xL4n xL5n).mono ?_
      rintro e w24 ⟨zxA0, zxn0, zxc0, zxA1, zxn1, zxc1, zxA2, zxn2, zxc2, zxA3, zxn3, zxc3, zxA4, zxn4, zxc4, zxA5, zxn5, zxc5, rfl, rzx, b24⟩
      clear hS
      have z24 := Below.size b24
      (try simp only [World.size_alloc, World.size_setCell, size_drew] at z24)
      have B24 : Below w.heap.size w w24 := Below.t b24
      have rw0_ := (rw0.drew.below b24)
      clear rw0; have rw0 := rw0_; clear rw0_
      have rxk_ := (rxk.drew.below b24)
      clear rxk; have rxk := rxk_; clear rxk_
      have rxx_ := (rxx.drew.below b24)
      clear rxx; have rxx := rxx_; clear rxx_
      have rg0_ := (rg0.drew.below b24)
      clear rg0; have rg0 := rg0_; clear rg0_
      have pk_ : Box w24 (w.heap.size) #[.int .i64 kI0, (.slice kA1 kn1 kc1)] 30 := (Box.b pk.drew b24)
      clear pk; have pk := pk_; clear pk_
      have px_ : Box w24 (w.heap.size + 1) #[(.slice xA0 xn0 xc0), (.slice xA1 xn1 xc1), (.slice xA2 xn2 xc2), (.slice xA3 xn3 xc3), (.slice xA4 xn4 xc4), (.slice xA5 xn5 xc5)] 64 := (Box.b px.drew b24)
      clear px; have px := px_; clear px_
      have po_ : Box w24 (w.heap.size + 1 + 1) #[.int .i64 oI0, .int .i64 oI1] 90 := (Box.b po.drew b24)
      clear po; have po := po_; clear po_
      have kw0_ : Box w24 (gkw0) #[(.slice w0A0 w0n0 w0c0), (.slice w0A1 w0n1 w0c1)] 38 := (Box.b kw0.drew b24)
      clear kw0; have kw0 := kw0_; clear kw0_
      have xk_ : Box w24 (w13.heap.size) #[.int .i64 kI0, (.slice xkA1 xkn1 xkc1)] 33 := (Box.b xk.drew b24)
      clear xk; have xk := xk_; clear xk_
      have xx_ : Box w24 (w14.heap.size) #[(.slice xxA0 xxn0 xxc0), (.slice xxA1 xxn1 xxc1), (.slice xxA2 xxn2 xxc2), (.slice xxA3 xxn3 xxc3), (.slice xxA4 xxn4 xxc4), (.slice xxA5 xxn5 xxc5)] 68 := (Box.b xx.drew b24)
      clear xx; have xx := xx_; clear xx_
      have kg0_ : Box w24 (gkg0) #[(.slice g0A0 g0n0 g0c0), (.slice g0A1 g0n1 g0c1)] 38 := (Box.b kg0.drew b24)
      clear kg0; have kg0 := kg0_; clear kg0_
      (try simp only [World.size_alloc, World.size_setCell, size_drew] at rzx)
      refine ⟨_, rfl, ⟨px.six.1, px.six.2.1, px.six.2.2.1, px.six.2.2.2.1, px.six.2.2.2.2.1, px.six.2.2.2.2.2.1, xx.six.1, xx.six.2.1, xx.six.2.2.1, xx.six.2.2.2.1, xx.six.2.2.2.2.1, xx.six.2.2.2.2.2.1⟩, fun hS => ?_⟩
      (try simp only [Act.put, List.setIfInBounds_toArray, List.set_cons_zero, List.set_cons_succ])
      refine on 3 ?_
      refine callH (by go_simp; (first | done | with_reducible rfl | exact ⟨rfl, rfl⟩)) ?_
      go_at_call 62
      refine (eqTriple_L rxx.rd rzx.rd xL0n xL1n xL2n xL3n xL4n xL5n).mono ?_
      rintro e w25 ⟨rfl, b25⟩
      clear hS
      have z25 := Below.size b25
      (try simp only [World.size_alloc, World.size_setCell, size_drew] at z25)
      have B25 : Below w.heap.size w w25 := Below.t b25
      have rw0_ := (rw0.below b25)
      clear rw0; have rw0 := rw0_; clear rw0_
      have rxk_ := (rxk.below b25)
      clear rxk; have rxk := rxk_; clear rxk_
      have rxx_ := (rxx.below b25)
      clear rxx; have rxx := rxx_; clear rxx_
      have rg0_ := (rg0.below b25)
      clear rg0; have rg0 := rg0_; clear rg0_
      have rzx_ := (rzx.below b25)
      clear rzx; have rzx := rzx_; clear rzx_
      have pk_ : Box w25 (w.heap.size) #[.int .i64 kI0, (.slice kA1 kn1 kc1)] 30 := (Box.b pk b25)
      clear pk; have pk := pk_; clear pk_
      have px_ : Box w25 (w.heap.size + 1) #[(.slice xA0 xn0 xc0), (.slice xA1 xn1 xc1), (.slice xA2 xn2 xc2), (.slice xA3 xn3 xc3), (.slice xA4 xn4 xc4), (.slice xA5 xn5 xc5)] 64 := (Box.b px b25)
      clear px; have px := px_; clear px_
      have po_ : Box w25 (w.heap.size + 1 + 1) #[.int .i64 oI0, .int .i64 oI1] 90 := (Box.b po b25)
      clear po; have po := po_; clear po_
      have kw0_ : Box w25 (gkw0) #[(.slice w0A0 w0n0 w0c0), (.slice w0A1 w0n1 w0c1)] 38 := (Box.b kw0 b25)
      clear kw0; have kw0 := kw0_; clear kw0_
      have xk_ : Box w25 (w13.heap.size) #[.int .i64 kI0, (.slice xkA1 xkn1 xkc1)] 33 := (Box.b xk b25)
      clear xk; have xk := xk_; clear xk_
      have xx_ : Box w25 (w14.heap.size) #[(.slice xxA0 xxn0 xxc0), (.slice xxA1 xxn1 xxc1), (.slice xxA2 xxn2 xxc2), (.slice xxA3 xxn3 xxc3), (.slice xxA4 xxn4 xxc4), (.slice xxA5 xxn5 xxc5)] 68 := (Box.b xx b25)
      clear xx; have xx := xx_; clear xx_
      have kg0_ : Box w25 (gkg0) #[(.slice g0A0 g0n0 g0c0), (.slice g0A1 g0n1 g0c1)] 38 := (Box.b kg0 b25)
      clear kg0; have kg0 := kg0_; clear kg0_
      refine ⟨_, rfl, ⟨px.six.1, px.six.2.1, px.six.2.2.1, px.six.2.2.2.1, px.six.2.2.2.2.1, px.six.2.2.2.2.2.1, xx.six.1, xx.six.2.1, xx.six.2.2.1, xx.six.2.2.2.1, xx.six.2.2.2.2.1, xx.six.2.2.2.2.2.1⟩, fun hS => ?_⟩
      (try simp only [Act.put, List.setIfInBounds_toArray, List.set_cons_zero, List.set_cons_succ])
      (refine tk 4 hS ?_; (try simp only [Act.put, List.setIfInBounds_toArray, List.set_cons_zero, List.set_cons_succ]))
      clear hS
      refine wpAnyH_done (by kernel_rfl) ?_ _
      obtain ⟨cxk_0, cxk_1, fxk_0, fxk_1⟩ := xk.two
      have l_xk_0 : w13.heap.size < w25.heap.size := by omega
      go_wp2_with fail
      refine (markKeys_L kI0 (1) _ rxk (by first | omega | (simp [size_drew]; done) | (simp [size_drew]; omega)) (by omega) kL1n).mono ?_
      rintro e w26 ⟨rfl, rxk, c26⟩
      clear cxk_0 cxk_1 fxk_0 fxk_1 l_xk_0
      have z26 := c26.size
      try simp only [World.size_alloc, World.size_setCell, size_drew] at z26
      have rw0_ := rw0.away c26 (by omega)
      clear rw0; have rw0 := rw0_; clear rw0_
      have rxx_ := rxx.away c26 (by omega)
      clear rxx; have rxx := rxx_; clear rxx_
      have rg0_ := rg0.away c26 (by omega)
      clear rg0; have rg0 := rg0_; clear rg0_
      have pk_ : Box w26 (w.heap.size) #[.int .i64 kI0, (.slice kA1 kn1 kc1)] 30 := pk.chg c26 (by omega)
      clear pk; have pk := pk_; clear pk_
      have px_ : Box w26 (w.heap.size + 1) #[(.slice xA0 xn0 xc0), (.slice xA1 xn1 xc1), (.slice xA2 xn2 xc2), (.slice xA3 xn3 xc3), (.slice xA4 xn4 xc4), (.slice xA5 xn5 xc5)] 64 := px.chg c26 (by omega)
      clear px; have px := px_; clear px_
      have po_ : Box w26 (w.heap.size + 1 + 1) #[.int .i64 oI0, .int .i64 oI1] 90 := po.chg c26 (by omega)
      clear po; have po := po_; clear po_
      have kw0_ : Box w26 (gkw0) #[(.slice w0A0 w0n0 w0c0), (.slice w0A1 w0n1 w0c1)] 38 := kw0.chg c26 (by omega)
      clear kw0; have kw0 := kw0_; clear kw0_
      have xk_ : Box w26 (w13.heap.size) #[.int .i64 kI0, (.slice xkA1 xkn1 xkc1)] 33 := xk.chg c26 (by omega)
      clear xk; have xk := xk_; clear xk_
      have xx_ : Box w26 (w14.heap.size) #[(.slice xxA0 xxn0 xxc0), (.slice xxA1 xxn1 xxc1), (.slice xxA2 xxn2 xxc2), (.slice xxA3 xxn3 xxc3), (.slice xxA4 xxn4 xxc4), (.slice xxA5 xxn5 xxc5)] 68 := xx.chg c26 (by omega)
      clear xx; have xx := xx_; clear xx_
      have kg0_ : Box w26 (gkg0) #[(.slice g0A0 g0n0 g0c0), (.slice g0A1 g0n1 g0c1)] 38 := kg0.chg c26 (by omega)
      clear kg0; have kg0 := kg0_; clear kg0_
      have B26 : Below w.heap.size w w26 := B25.trans (c26.below (by omega) (by omega))
      obtain ⟨cxx_0, cxx_1, cxx_2, cxx_3, cxx_4, cxx_5, fxx_0, fxx_1, fxx_2, fxx_3, fxx_4, fxx_5⟩ := xx.six
      have l_xx_0 : w14.heap.size < w26.heap.size := by omega
      go_wp2_with fail
      refine (markTriple_L (1 + (kL1.length)) _ rxx (by first | omega | (simp [size_drew]; done) | (simp [size_drew]; omega)) (by omega) xL0n xL1n xL2n xL3n xL4n xL5n).mono ?_
      rintro e w27 ⟨rfl, rxx, c27⟩
      clear cxx_0 cxx_1 cxx_2 cxx_3 cxx_4 cxx_5 fxx_0 fxx_1 fxx_2 fxx_3 fxx_4 fxx_5 l_xx_0
      have z27 := c27.size
      try simp only [World.size_alloc, World.size_setCell, size_drew] at z27
      have rw0_ := rw0.away c27 (by omega)
      clear rw0; have rw0 := rw0_; clear rw0_
      have rg0_ := rg0.away c27 (by omega)
      clear rg0; have rg0 := rg0_; clear rg0_
      have rxk_ := rxk.away c27 (by omega)
      clear rxk; have rxk := rxk_; clear rxk_
      have pk_ : Box w27 (w.heap.size) #[.int .i64 kI0, (.slice kA1 kn1 kc1)] 30 := pk.chg c27 (by omega)
      clear pk; have pk := pk_; clear pk_
      have px_ : Box w27 (w.heap.size + 1) #[(.slice xA0 xn0 xc0), (.slice xA1 xn1 xc1), (.slice xA2 xn2 xc2), (.slice xA3 xn3 xc3), (.slice xA4 xn4 xc4), (.slice xA5 xn5 xc5)] 64 := px.chg c27 (by omega)
      clear px; have px := px_; clear px_
      have po_ : Box w27 (w.heap.size + 1 + 1) #[.int .i64 oI0, .int .i64 oI1] 90 := po.chg c27 (by omega)
      clear po; have po := po_; clear po_
      have kw0_ : Box w27 (gkw0) #[(.slice w0A0 w0n0 w0c0), (.slice w0A1 w0n1 w0c1)] 38 := kw0.chg c27 (by omega)
      clear kw0; have kw0 := kw0_; clear kw0_
      have xk_ : Box w27 (w13.heap.size) #[.int .i64 kI0, (.slice xkA1 xkn1 xkc1)] 33 := xk.chg c27 (by omega)
      clear xk; have xk := xk_; clear xk_
      have xx_ : Box w27 (w14.heap.size) #[(.slice xxA0 xxn0 xxc0), (.slice xxA1 xxn1 xxc1), (.slice xxA2 xxn2 xxc2), (.slice xxA3 xxn3 xxc3), (.slice xxA4 xxn4 xxc4), (.slice xxA5 xxn5 xxc5)] 68 := xx.chg c27 (by omega)
      clear xx; have xx := xx_; clear xx_
      have kg0_ : Box w27 (gkg0) #[(.slice g0A0 g0n0 g0c0), (.slice g0A1 g0n1 g0c1)] 38 := kg0.chg c27 (by omega)
      clear kg0; have kg0 := kg0_; clear kg0_
      have B27 : Below w.heap.size w w27 := B26.trans (c27.below (by omega) (by omega))
      obtain ⟨ckg0_0, ckg0_1, fkg0_0, fkg0_1⟩ := kg0.two
      have l_kg0_0 : gkg0 < w27.heap.size := by omega
      obtain ⟨ckw0_0, ckw0_1, fkw0_0, fkw0_1⟩ := kw0.two
      have l_kw0_0 : gkw0 < w27.heap.size := by omega
      go_wp2_with fail
      refine (eqAuth_L rg0.rd rw0.rd rL0_0n rL0_1n).mono ?_
      rintro e w28 ⟨rfl, b28⟩
      clear ckg0_0 ckg0_1 fkg0_0 fkg0_1 l_kg0_0 ckw0_0 ckw0_1 fkw0_0 fkw0_1 l_kw0_0
      have z28 := b28.size
      try simp only [World.size_alloc, World.size_setCell, size_drew] at z28
      have B28 : Below w.heap.size w w28 := Below.t b28
      have rw0_ := rw0.below b28
      clear rw0; have rw0 := rw0_; clear rw0_
      have rg0_ := rg0.below b28
      clear rg0; have rg0 := rg0_; clear rg0_
      have rxk_ := rxk.below b28
      clear rxk; have rxk := rxk_; clear rxk_
      have rxx_ := rxx.below b28
      clear rxx; have rxx := rxx_; clear rxx_
      have pk_ : Box w28 (w.heap.size) #[.int .i64 kI0, (.slice kA1 kn1 kc1)] 30 := pk.below b28 (by first | omega | (simp [size_drew]; done) | (simp [size_drew]; omega))
      clear pk; have pk := pk_; clear pk_
      have px_ : Box w28 (w.heap.size + 1) #[(.slice xA0 xn0 xc0), (.slice xA1 xn1 xc1), (.slice xA2 xn2 xc2), (.slice xA3 xn3 xc3), (.slice xA4 xn4 xc4), (.slice xA5 xn5 xc5)] 64 := px.below b28 (by first | omega | (simp [size_drew]; done) | (simp [size_drew]; omega))
      clear px; have px := px_; clear px_
      have po_ : Box w28 (w.heap.size + 1 + 1) #[.int .i64 oI0, .int .i64 oI1] 90 := po.below b28 (by first | omega | (simp [size_drew]; done) | (simp [size_drew]; omega))
      clear po; have po := po_; clear po_
      have kw0_ : Box w28 (gkw0) #[(.slice w0A0 w0n0 w0c0), (.slice w0A1 w0n1 w0c1)] 38 := kw0.below b28 (by first | omega | (simp [size_drew]; done) | (simp [size_drew]; omega))
      clear kw0; have kw0 := kw0_; clear kw0_
      have xk_ : Box w28 (w13.heap.size) #[.int .i64 kI0, (.slice xkA1 xkn1 xkc1)] 33 := xk.below b28 (by first | omega | (simp [size_drew]; done) | (simp [size_drew]; omega))
      clear xk; have xk := xk_; clear xk_
      have xx_ : Box w28 (w14.heap.size) #[(.slice xxA0 xxn0 xxc0), (.slice xxA1 xxn1 xxc1), (.slice xxA2 xxn2 xxc2), (.slice xxA3 xxn3 xxc3), (.slice xxA4 xxn4 xxc4), (.slice xxA5 xxn5 xxc5)] 68 := xx.below b28 (by first | omega | (simp [size_drew]; done) | (simp [size_drew]; omega))
      clear xx; have xx := xx_; clear xx_
      have kg0_ : Box w28 (gkg0) #[(.slice g0A0 g0n0 g0c0), (.slice g0A1 g0n1 g0c1)] 38 := kg0.below b28 (by first | omega | (simp [size_drew]; done) | (simp [size_drew]; omega))
      clear kg0; have kg0 := kg0_; clear kg0_
      obtain ⟨ckg0_0, ckg0_1, fkg0_0, fkg0_1⟩ := kg0.two
      have l_kg0_0 : gkg0 < w28.heap.size := by omega
      go_wp2_with fail
      refine (markAuth_L (1) _ rg0 (by first | omega | (simp [size_drew]; done) | (simp [size_drew]; omega)) (by omega) rL0_0n rL0_1n).mono ?_
      rintro e w29 ⟨rfl, rg0, c29⟩
      clear ckg0_0 ckg0_1 fkg0_0 fkg0_1 l_kg0_0
      have z29 := c29.size
      try simp only [World.size_alloc, World.size_setCell, size_drew] at z29
      have rw0_ := rw0.away c29 (by omega)
      clear rw0; have rw0 := rw0_; clear rw0_
      have pk_ : Box w29 (w.heap.size) #[.int .i64 kI0, (.slice kA1 kn1 kc1)] 30 := pk.chg c29 (by omega)
      clear pk; have pk := pk_; clear pk_
      have px_ : Box w29 (w.heap.size + 1) #[(.slice xA0 xn0 xc0), (.slice xA1 xn1 xc1), (.slice xA2 xn2 xc2), (.slice xA3 xn3 xc3), (.slice xA4 xn4 xc4), (.slice xA5 xn5 xc5)] 64 := px.chg c29 (by omega)
      clear px; have px := px_; clear px_
      have po_ : Box w29 (w.heap.size + 1 + 1) #[.int .i64 oI0, .int .i64 oI1] 90 := po.chg c29 (by omega)
      clear po; have po := po_; clear po_
      have kw0_ : Box w29 (gkw0) #[(.slice w0A0 w0n0 w0c0), (.slice w0A1 w0n1 w0c1)] 38 := kw0.chg c29 (by omega)
      clear kw0; have kw0 := kw0_; clear kw0_
      have kg0_ : Box w29 (gkg0) #[(.slice g0A0 g0n0 g0c0), (.slice g0A1 g0n1 g0c1)] 38 := kg0.chg c29 (by omega)
      clear kg0; have kg0 := kg0_; clear kg0_
      have B29 : Below w.heap.size w w29 := B28.trans (c29.below (by omega) (by omega))
      obtain ⟨ckg0_0, ckg0_1, fkg0_0, fkg0_1⟩ := kg0.two
      have l_kg0_0 : gkg0 < w29.heap.size := by omega
      go_wp2_with fail
      refine (heldAuth_L (uS kI0 kL1 xL0 xL1 xL2 xL3 xL4 xL5 oI0 oI1).length (uM kI0 kL1 xL0 xL1 xL2 xL3 xL4 xL5 oI0 oI1).length (1) _ rg0.rd (by first | omega | (simp [size_drew]; done) | (simp [size_drew]; omega)) (by omega) rL0_0n rL0_1n).mono ?_
      rintro e w30 ⟨rfl, b30⟩
      clear ckg0_0 ckg0_1 fkg0_0 fkg0_1 l_kg0_0
      have z30 := b30.size
      try simp only [World.size_alloc, World.size_setCell, size_drew] at z30
      have B30 : Below w.heap.size w w30 := Below.t b30
      have rw0_ := rw0.below b30
      clear rw0; have rw0 := rw0_; clear rw0_
      have rg0_ := rg0.below b30
      clear rg0; have rg0 := rg0_; clear rg0_
      have pk_ : Box w30 (w.heap.size) #[.int .i64 kI0, (.slice kA1 kn1 kc1)] 30 := pk.below b30 (by first | omega | (simp [size_drew]; done) | (simp [size_drew]; omega))
      clear pk; have pk := pk_; clear pk_
      have px_ : Box w30 (w.heap.size + 1) #[(.slice xA0 xn0 xc0), (.slice xA1 xn1 xc1), (.slice xA2 xn2 xc2), (.slice xA3 xn3 xc3), (.slice xA4 xn4 xc4), (.slice xA5 xn5 xc5)] 64 := px.below b30 (by first | omega | (simp [size_drew]; done) | (simp [size_drew]; omega))
      clear px; have px := px_; clear px_
      have po_ : Box w30 (w.heap.size + 1 + 1) #[.int .i64 oI0, .int .i64 oI1] 90 := po.below b30 (by first | omega | (simp [size_drew]; done) | (simp [size_drew]; omega))
      clear po; have po := po_; clear po_
      have kw0_ : Box w30 (gkw0) #[(.slice w0A0 w0n0 w0c0), (.slice w0A1 w0n1 w0c1)] 38 := kw0.below b30 (by first | omega | (simp [size_drew]; done) | (simp [size_drew]; omega))
      clear kw0; have kw0 := kw0_; clear kw0_
      have kg0_ : Box w30 (gkg0) #[(.slice g0A0 g0n0 g0c0), (.slice g0A1 g0n1 g0c1)] 38 := kg0.below b30 (by first | omega | (simp [size_drew]; done) | (simp [size_drew]; omega))
      clear kg0; have kg0 := kg0_; clear kg0_
      obtain ⟨cpk_0, cpk_1, fpk_0, fpk_1⟩ := pk.two
      have l_pk_0 : w.heap.size < w30.heap.size := by omega
      obtain ⟨cpx_0, cpx_1, cpx_2, cpx_3, cpx_4, cpx_5, fpx_0, fpx_1, fpx_2, fpx_3, fpx_4, fpx_5⟩ := px.six
      have l_px_0 : w.heap.size + 1 < w30.heap.size := by omega
      obtain ⟨cpo_0, cpo_1, fpo_0, fpo_1⟩ := po.two
      have l_po_0 : w.heap.size + 1 + 1 < w30.heap.size := by omega
      go_wp2_with fail
      clear cpk_0 cpk_1 fpk_0 fpk_1 l_pk_0 cpx_0 cpx_1 cpx_2 cpx_3 cpx_4 cpx_5 fpx_0 fpx_1 fpx_2 fpx_3 fpx_4 fpx_5 l_px_0 cpo_0 cpo_1 fpo_0 fpo_1 l_po_0
      refine wp_region_M [8] (w30.heap.size) 9 (S := fun W => Below w.heap.size w W ∧ Below w30.heap.size w30 W ∧ W.cell? ⟨w.heap.size, 0, none⟩ = some (.int .i64 kI0) ∧ W.cell? ⟨w.heap.size, 1, none⟩ = some ((.slice kA1 kn1 kc1)) ∧ W.cell? ⟨w.heap.size + 1, 0, none⟩ = some ((.slice xA0 xn0 xc0)) ∧ W.cell? ⟨w.heap.size + 1, 1, none⟩ = some ((.slice xA1 xn1 xc1)) ∧ W.cell? ⟨w.heap.size + 1, 2, none⟩ = some ((.slice xA2 xn2 xc2)) ∧ W.cell? ⟨w.heap.size + 1, 3, none⟩ = some ((.slice xA3 xn3 xc3)) ∧ W.cell? ⟨w.heap.size + 1, 4, none⟩ = some ((.slice xA4 xn4 xc4)) ∧ W.cell? ⟨w.heap.size + 1, 5, none⟩ = some ((.slice xA5 xn5 xc5)) ∧ W.cell? ⟨w.heap.size + 1 + 1, 0, none⟩ = some (.int .i64 oI0) ∧ W.cell? ⟨w.heap.size + 1 + 1, 1, none⟩ = some (.int .i64 oI1)) (by kernel_rfl) (by rfl) (fun W hW => ⟨Below.trans (b := _) (by repeat (with_reducible (first | assumption | exact Below.refl _ _ | refine Below.alloc ?_ (by first | omega | (simp; done) | (simp; omega)) _ | refine Below.setCell ?_ (by first | omega | (simp; done) | (simp; omega)) _ | refine Below.drew ?_ | refine below_drewN ?_ _))) (Below.mono hW (by first | omega | (simp [size_drew]; done) | (simp [size_drew]; omega))), Below.trans (b := _) (by repeat (with_reducible (first | assumption | exact Below.refl _ _ | refine Below.alloc ?_ (by first | omega | (simp; done) | (simp; omega)) _ | refine Below.setCell ?_ (by first | omega | (simp; done) | (simp; omega)) _ | refine Below.drew ?_ | refine below_drewN ?_ _))) (Below.mono hW (by first | omega | (simp [size_drew]; done) | (simp [size_drew]; omega))), (Box.below pk.drew hW (by first | omega | (simp [size_drew]; done) | (simp [size_drew]; omega))).two.1, (Box.below pk.drew hW (by first | omega | (simp [size_drew]; done) | (simp [size_drew]; omega))).two.2.1, (Box.below px.drew hW (by first | omega | (simp [size_drew]; done) | (simp [size_drew]; omega))).six.1, (Box.below px.drew hW (by first | omega | (simp [size_drew]; done) | (simp [size_drew]; omega))).six.2.1, (Box.below px.drew hW (by first | omega | (simp [size_drew]; done) | (simp [size_drew]; omega))).six.2.2.1, (Box.below px.drew hW (by first | omega | (simp [size_drew]; done) | (simp [size_drew]; omega))).six.2.2.2.1, (Box.below px.drew hW (by first | omega | (simp [size_drew]; done) | (simp [size_drew]; omega))).six.2.2.2.2.1, (Box.below px.drew hW (by first | omega | (simp [size_drew]; done) | (simp [size_drew]; omega))).six.2.2.2.2.2.1, (Box.below po.drew hW (by first | omega | (simp [size_drew]; done) | (simp [size_drew]; omega))).two.1, (Box.below po.drew hW (by first | omega | (simp [size_drew]; done) | (simp [size_drew]; omega))).two.2.1⟩) (by first | omega | (simp [size_drew]; done) | (simp [size_drew]; omega)) (fun hS hG => ?_)
      (try dsimp only at hS)
      refine pendM 7 15 #[.slice none 0 0, .slice none 0 0] 38 (by simp only [List.getElem?_toArray, List.getElem?_cons_succ, List.getElem?_cons_zero] <;> rfl) (by kernel_rfl) (by exact fun _ _ _ _ h => h) (by intro a W; unfold ptr; go_simp; (first | done | rfl)) hG ?_
      (refine tkM 0 hG hS ?_; (try simp only [Act.put, List.setIfInBounds_toArray, List.set_cons_zero, List.set_cons_succ]))
      (refine tkM 2 hG hS ?_; (try simp only [Act.put, List.setIfInBounds_toArray, List.set_cons_zero, List.set_cons_succ]))
      (refine tkM 4 hG hS ?_; (try simp only [Act.put, List.setIfInBounds_toArray, List.set_cons_zero, List.set_cons_succ]))
      refine callM hG (i := 1) (by simp only [List.getElem?_toArray, List.getElem?_cons_succ, List.getElem?_cons_zero] <;> rfl) (by kernel_rfl) (by rfl) (by rfl) (by intro W hW; have hSw := hS W hW; (try dsimp only at hSw); go_simp; (first | done | with_reducible rfl | exact ⟨rfl, rfl⟩)) ?_
      intro w31 b31
      have B31 : Below w.heap.size w w31 := (hS w31 b31).1
      have z31 := Below.size b31
      (try simp only [World.size_alloc, World.size_setCell, size_drew] at z31)
      have rw0_ := (rw0.drew.below b31)
      clear rw0; have rw0 := rw0_; clear rw0_
      have rg0_ := (rg0.drew.below b31)
      clear rg0; have rg0 := rg0_; clear rg0_
      have pk_ : Box w31 (w.heap.size) #[.int .i64 kI0, (.slice kA1 kn1 kc1)] 30 := (Box.b pk.drew b31)
      clear pk; have pk := pk_; clear pk_
      have px_ : Box w31 (w.heap.size + 1) #[(.slice xA0 xn0 xc0), (.slice xA1 xn1 xc1), (.slice xA2 xn2 xc2), (.slice xA3 xn3 xc3), (.slice xA4 xn4 xc4), (.slice xA5 xn5 xc5)] 64 := (Box.b px.drew b31)
      clear px; have px := px_; clear px_
      have po_ : Box w31 (w.heap.size + 1 + 1) #[.int .i64 oI0, .int .i64 oI1] 90 := (Box.b po.drew b31)
      clear po; have po := po_; clear po_
      have kw0_ : Box w31 (gkw0) #[(.slice w0A0 w0n0 w0c0), (.slice w0A1 w0n1 w0c1)] 38 := (Box.b kw0.drew b31)
      clear kw0; have kw0 := kw0_; clear kw0_
      have kg0_ : Box w31 (gkg0) #[(.slice g0A0 g0n0 g0c0), (.slice g0A1 g0n1 g0c1)] 38 := (Box.b kg0.drew b31)
      clear kg0; have kg0 := kg0_; clear kg0_
      clear hS hG
      go_at_call 35
      refine (toKeys_L kI0 (RdL.cons (d := .ints kL1) kL1h.rd.b RdL.nil) kL1n).mono ?_
      rintro e w32 ⟨tkA1, tkn1, tkc1, rfl, rtk, b32⟩
      refine ⟨_, rfl, b32, fun hG => ?_⟩
      have z32 := Below.size b32
      have B32 : Below w.heap.size w w32 := Below.t b32
      have rw0_ := (rw0.below b32)
      clear rw0; have rw0 := rw0_; clear rw0_
      have rg0_ := (rg0.below b32)
      clear rg0; have rg0 := rg0_; clear rg0_
      have pk_ : Box w32 (w.heap.size) #[.int .i64 kI0, (.slice kA1 kn1 kc1)] 30 := (Box.b pk b32)
      clear pk; have pk := pk_; clear pk_
      have px_ : Box w32 (w.heap.size + 1) #[(.slice xA0 xn0 xc0), (.slice xA1 xn1 xc1), (.slice xA2 xn2 xc2), (.slice xA3 xn3 xc3), (.slice xA4 xn4 xc4), (.slice xA5 xn5 xc5)] 64 := (Box.b px b32)
      clear px; have px := px_; clear px_
      have po_ : Box w32 (w.heap.size + 1 + 1) #[.int .i64 oI0, .int .i64 oI1] 90 := (Box.b po b32)
      clear po; have po := po_; clear po_
      have kw0_ : Box w32 (gkw0) #[(.slice w0A0 w0n0 w0c0), (.slice w0A1 w0n1 w0c1)] 38 := (Box.b kw0 b32)
      clear kw0; have kw0 := kw0_; clear kw0_
      have kg0_ : Box w32 (gkg0) #[(.slice g0A0 g0n0 g0c0), (.slice g0A1 g0n1 g0c1)] 38 := (Box.b kg0 b32)
      clear kg0; have kg0 := kg0_; clear kg0_
      (try simp only [Act.put, List.setIfInBounds_toArray, List.set_cons_zero, List.set_cons_succ])
      have hS : ∀ W, Later w32 W → (Below w.heap.size w W ∧ Below w32.heap.size w32 W ∧ W.cell? ⟨w.heap.size, 0, none⟩ = some (.int .i64 kI0) ∧ W.cell? ⟨w.heap.size, 1, none⟩ = some ((.slice kA1 kn1 kc1)) ∧ W.cell? ⟨w.heap.size + 1, 0, none⟩ = some ((.slice xA0 xn0 xc0)) ∧ W.cell? ⟨w.heap.size + 1, 1, none⟩ = some ((.slice xA1 xn1 xc1)) ∧ W.cell? ⟨w.heap.size + 1, 2, none⟩ = some ((.slice xA2 xn2 xc2)) ∧ W.cell? ⟨w.heap.size + 1, 3, none⟩ = some ((.slice xA3 xn3 xc3)) ∧ W.cell? ⟨w.heap.size + 1, 4, none⟩ = some ((.slice xA4 xn4 xc4)) ∧ W.cell? ⟨w.heap.size + 1, 5, none⟩ = some ((.slice xA5 xn5 xc5)) ∧ W.cell? ⟨w.heap.size + 1 + 1, 0, none⟩ = some (.int .i64 oI0) ∧ W.cell? ⟨w.heap.size + 1 + 1, 1, none⟩ = some (.int .i64 oI1)) := fun W hW => ⟨Below.trans (b := _) (by repeat (with_reducible (first | assumption | exact Below.refl _ _ | refine Below.alloc ?_ (by first | omega | (simp; done) | (simp; omega)) _ | refine Below.setCell ?_ (by first | omega | (simp; done) | (simp; omega)) _ | refine Below.drew ?_ | refine below_drewN ?_ _))) (Below.mono hW (by first | omega | (simp [size_drew]; done) | (simp [size_drew]; omega))), Below.trans (b := _) (by repeat (with_reducible (first | assumption | exact Below.refl _ _ | refine Below.alloc ?_ (by first | omega | (simp; done) | (simp; omega)) _ | refine Below.setCell ?_ (by first | omega | (simp; done) | (simp; omega)) _ | refine Below.drew ?_ | refine below_drewN ?_ _))) (Below.mono hW (by first | omega | (simp [size_drew]; done) | (simp [size_drew]; omega))), (Box.below pk hW (by first | omega | (simp [size_drew]; done) | (simp [size_drew]; omega))).two.1, (Box.below pk hW (by first | omega | (simp [size_drew]; done) | (simp [size_drew]; omega))).two.2.1, (Box.below px hW (by first | omega | (simp [size_drew]; done) | (simp [size_drew]; omega))).six.1, (Box.below px hW (by first | omega | (simp [size_drew]; done) | (simp [size_drew]; omega))).six.2.1, (Box.below px hW (by first | omega | (simp [size_drew]; done) | (simp [size_drew]; omega))).six.2.2.1, (Box.below px hW (by first | omega | (simp [size_drew]; done) | (simp [size_drew]; omega))).six.2.2.2.1, (Box.below px hW (by first | omega | (simp [size_drew]; done) | (simp [size_drew]; omega))).six.2.2.2.2.1, (Box.below px hW (by first | omega | (simp [size_drew]; done) | (simp [size_drew]; omega))).six.2.2.2.2.2.1, (Box.below po hW (by first | omega | (simp [size_drew]; done) | (simp [size_drew]; omega))).two.1, (Box.below po hW (by first | omega | (simp [size_drew]; done) | (simp [size_drew]; omega))).two.2.1⟩
      refine callM hG (i := 3) (by simp only [List.getElem?_toArray, List.getElem?_cons_succ, List.getElem?_cons_zero] <;> rfl) (by kernel_rfl) (by rfl) (by rfl) (by intro W hW; have hSw := hS W hW; (try dsimp only at hSw); go_simp; (first | done | with_reducible rfl | exact ⟨rfl, rfl⟩)) ?_
      intro w33 b33
      have B33 : Below w.heap.size w w33 := (hS w33 b33).1
      have z33 := Below.size b33
      (try simp only [World.size_alloc, World.size_setCell, size_drew] at z33)
      have rw0_ := (rw0.below b33)
      clear rw0; have rw0 := rw0_; clear rw0_
      have rg0_ := (rg0.below b33)
      clear rg0; have rg0 := rg0_; clear rg0_
      have rtk_ := (rtk.below b33)
      clear rtk; have rtk := rtk_; clear rtk_
      have pk_ : Box w33 (w.heap.size) #[.int .i64 kI0, (.slice kA1 kn1 kc1)] 30 := (Box.b pk b33)
      clear pk; have pk := pk_; clear pk_
      have px_ : Box w33 (w.heap.size + 1) #[(.slice xA0 xn0 xc0), (.slice xA1 xn1 xc1), (.slice xA2 xn2 xc2), (.slice xA3 xn3 xc3), (.slice xA4 xn4 xc4), (.slice xA5 xn5 xc5)] 64 := (Box.b px b33)
      clear px; have px := px_; clear px_
      have po_ : Box w33 (w.heap.size + 1 + 1) #[.int .i64 oI0, .int .i64 oI1] 90 := (Box.b po b33)
      clear po; have po := po_; clear po_
      have kw0_ : Box w33 (gkw0) #[(.slice w0A0 w0n0 w0c0), (.slice w0A1 w0n1 w0c1)] 38 := (Box.b kw0 b33)
      clear kw0; have kw0 := kw0_; clear kw0_
      have kg0_ : Box w33 (gkg0) #[(.slice g0A0 g0n0 g0c0), (.slice g0A1 g0n1 g0c1)] 38 := (Box.b kg0 b33)
      clear kg0; have kg0 := kg0_; clear kg0_
      clear hS hG
      go_at_call 60
      refine (toTriple_L (RdL.cons (d := .ints xL0) xL0h.rd.b (RdL.cons (d := .ints xL1) xL1h.rd.b (RdL.cons (d := .ints xL2) xL2h.rd.b (RdL.cons (d := .ints xL3) xL3h.rd.b (RdL.cons (d := .ints xL4) xL4h.rd.b (RdL.cons (d := .ints xL5) xL5h.rd.b RdL.nil)))))) xL0n xL1n xL2n xL3n xL4n xL5n).mono ?_
      rintro e w34 ⟨txA0, txn0, txc0, txA1, txn1, txc1, txA2, txn2, txc2, txA3, txn3, txc3, txA4, txn4, txc4, txA5, txn5, txc5, rfl, rtx, b34⟩
      refine ⟨_, rfl, b34, fun hG => ?_⟩
      have z34 := Below.size b34
      have B34 : Below w.heap.size w w34 := Below.t b34
      have rw0_ := (rw0.below b34)
      clear rw0; have rw0 := rw0_; clear rw0_
      have rg0_ := (rg0.below b34)
      clear rg0; have rg0 := rg0_; clear rg0_
      have rtk_ := (rtk.below b34)
      clear rtk; have rtk := rtk_; clear rtk_
      have pk_ : Box w34 (w.heap.size) #[.int .i64 kI0, (.slice kA1 kn1 kc1)] 30 := (Box.b pk b34)
      clear pk; have pk := pk_; clear pk_
      have px_ : Box w34 (w.heap.size + 1) #[(.slice xA0 xn0 xc0), (.slice xA1 xn1 xc1), (.slice xA2 xn2 xc2), (.slice xA3 xn3 xc3), (.slice xA4 xn4 xc4), (.slice xA5 xn5 xc5)] 64 := (Box.b px b34)
      clear px; have px := px_; clear px_
      have po_ : Box w34 (w.heap.size + 1 + 1) #[.int .i64 oI0, .int .i64 oI1] 90 := (Box.b po b34)
      clear po; have po := po_; clear po_
      have kw0_ : Box w34 (gkw0) #[(.slice w0A0 w0n0 w0c0), (.slice w0A1 w0n1 w0c1)] 38 := (Box.b kw0 b34)
      clear kw0; have kw0 := kw0_; clear kw0_
      have kg0_ : Box w34 (gkg0) #[(.slice g0A0 g0n0 g0c0), (.slice g0A1 g0n1 g0c1)] 38 := (Box.b kg0 b34)
      clear kg0; have kg0 := kg0_; clear kg0_
      (try simp only [Act.put, List.setIfInBounds_toArray, List.set_cons_zero, List.set_cons_succ])
      have hS : ∀ W, Later w34 W → (Below w.heap.size w W ∧ Below w34.heap.size w34 W ∧ W.cell? ⟨w.heap.size, 0, none⟩ = some (.int .i64 kI0) ∧ W.cell? ⟨w.heap.size, 1, none⟩ = some ((.slice kA1 kn1 kc1)) ∧ W.cell? ⟨w.heap.size + 1, 0, none⟩ = some ((.slice xA0 xn0 xc0)) ∧ W.cell? ⟨w.heap.size + 1, 1, none⟩ = some ((.slice xA1 xn1 xc1)) ∧ W.cell? ⟨w.heap.size + 1, 2, none⟩ = some ((.slice xA2 xn2 xc2)) ∧ W.cell? ⟨w.heap.size + 1, 3, none⟩ = some ((.slice xA3 xn3 xc3)) ∧ W.cell? ⟨w.heap.size + 1, 4, none⟩ = some ((.slice xA4 xn4 xc4)) ∧ W.cell? ⟨w.heap.size + 1, 5, none⟩ = some ((.slice xA5 xn5 xc5)) ∧ W.cell? ⟨w.heap.size + 1 + 1, 0, none⟩ = some (.int .i64 oI0) ∧ W.cell? ⟨w.heap.size + 1 + 1, 1, none⟩ = some (.int .i64 oI1)) := fun W hW => ⟨Below.trans (b := _) (by repeat (with_reducible (first | assumption | exact Below.refl _ _ | refine Below.alloc ?_ (by first | omega | (simp; done) | (simp; omega)) _ | refine Below.setCell ?_ (by first | omega | (simp; done) | (simp; omega)) _ | refine Below.drew ?_ | refine below_drewN ?_ _))) (Below.mono hW (by first | omega | (simp [size_drew]; done) | (simp [size_drew]; omega))), Below.trans (b := _) (by repeat (with_reducible (first | assumption | exact Below.refl _ _ | refine Below.alloc ?_ (by first | omega | (simp; done) | (simp; omega)) _ | refine Below.setCell ?_ (by first | omega | (simp; done) | (simp; omega)) _ | refine Below.drew ?_ | refine below_drewN ?_ _))) (Below.mono hW (by first | omega | (simp [size_drew]; done) | (simp [size_drew]; omega))), (Box.below pk hW (by first | omega | (simp [size_drew]; done) | (simp [size_drew]; omega))).two.1, (Box.below pk hW (by first | omega | (simp [size_drew]; done) | (simp [size_drew]; omega))).two.2.1, (Box.below px hW (by first | omega | (simp [size_drew]; done) | (simp [size_drew]; omega))).six.1, (Box.below px hW (by first | omega | (simp [size_drew]; done) | (simp [size_drew]; omega))).six.2.1, (Box.below px hW (by first | omega | (simp [size_drew]; done) | (simp [size_drew]; omega))).six.2.2.1, (Box.below px hW (by first | omega | (simp [size_drew]; done) | (simp [size_drew]; omega))).six.2.2.2.1, (Box.below px hW (by first | omega | (simp [size_drew]; done) | (simp [size_drew]; omega))).six.2.2.2.2.1, (Box.below px hW (by first | omega | (simp [size_drew]; done) | (simp [size_drew]; omega))).six.2.2.2.2.2.1, (Box.below po hW (by first | omega | (simp [size_drew]; done) | (simp [size_drew]; omega))).two.1, (Box.below po hW (by first | omega | (simp [size_drew]; done) | (simp [size_drew]; omega))).two.2.1⟩
      refine callM hG (i := 5) (by simp only [List.getElem?_toArray, List.getElem?_cons_succ, List.getElem?_cons_zero] <;> rfl) (by kernel_rfl) (by rfl) (by rfl) (by intro W hW; have hSw := hS W hW; (try dsimp only at hSw); go_simp; (first | done | with_reducible rfl | exact ⟨rfl, rfl⟩)) ?_
      intro w35 b35
      have B35 : Below w.heap.size w w35 := (hS w35 b35).1
      have z35 := Below.size b35
      (try simp only [World.size_alloc, World.size_setCell, size_drew] at z35)
      have rw0_ := (rw0.below b35)
      clear rw0; have rw0 := rw0_; clear rw0_
      have rg0_ := (rg0.below b35)
      clear rg0; have rg0 := rg0_; clear rg0_
      have rtk_ := (rtk.below b35)
      clear rtk; have rtk := rtk_; clear rtk_
      have rtx_ := (rtx.below b35)
      clear rtx; have rtx := rtx_; clear rtx_
      have pk_ : Box w35 (w.heap.size) #[.int .i64 kI0, (.slice kA1 kn1 kc1)] 30 := (Box.b pk b35)
      clear pk; have pk := pk_; clear pk_
      have px_ : Box w35 (w.heap.size + 1) #[(.slice xA0 xn0 xc0), (.slice xA1 xn1 xc1), (.slice xA2 xn2 xc2), (.slice xA3 xn3 xc3), (.slice xA4 xn4 xc4), (.slice xA5 xn5 xc5)] 64 := (Box.b px b35)
      clear px; have px := px_; clear px_
      have po_ : Box w35 (w.heap.size + 1 + 1) #[.int .i64 oI0, .int .i64 oI1] 90 := (Box.b po b35)
      clear po; have po := po_; clear po_
      have kw0_ : Box w35 (gkw0) #[(.slice w0A0 w0n0 w0c0), (.slice w0A1 w0n1 w0c1)] 38 := (Box.b kw0 b35)
      clear kw0; have kw0 := kw0_; clear kw0_
      have kg0_ : Box w35 (gkg0) #[(.slice g0A0 g0n0 g0c0), (.slice g0A1 g0n1 g0c1)] 38 := (Box.b kg0 b35)
      clear kg0; have kg0 := kg0_; clear kg0_
      clear hS hG
      go_at_call 81
      refine (toOpening_L oI0 oI1).mono ?_
      rintro e w36 ⟨rfl, b36⟩
      refine ⟨_, rfl, b36, fun hG => ?_⟩
      have z36 := Below.size b36
      have B36 : Below w.heap.size w w36 := Below.t b36
      have rw0_ := (rw0.below b36)
      clear rw0; have rw0 := rw0_; clear rw0_
      have rg0_ := (rg0.below b36)
      clear rg0; have rg0 := rg0_; clear rg0_
      have rtk_ := (rtk.below b36)
      clear rtk; have rtk := rtk_; clear rtk_
      have rtx_ := (rtx.below b36)
      clear rtx; have rtx := rtx_; clear rtx_
      have pk_ : Box w36 (w.heap.size) #[.int .i64 kI0, (.slice kA1 kn1 kc1)] 30 := (Box.b pk b36)
      clear pk; have pk := pk_; clear pk_
      have px_ : Box w36 (w.heap.size + 1) #[(.slice xA0 xn0 xc0), (.slice xA1 xn1 xc1), (.slice xA2 xn2 xc2), (.slice xA3 xn3 xc3), (.slice xA4 xn4 xc4), (.slice xA5 xn5 xc5)] 64 := (Box.b px b36)
      clear px; have px := px_; clear px_
      have po_ : Box w36 (w.heap.size + 1 + 1) #[.int .i64 oI0, .int .i64 oI1] 90 := (Box.b po b36)
      clear po; have po := po_; clear po_
      have kw0_ : Box w36 (gkw0) #[(.slice w0A0 w0n0 w0c0), (.slice w0A1 w0n1 w0c1)] 38 := (Box.b kw0 b36)
      clear kw0; have kw0 := kw0_; clear kw0_
      have kg0_ : Box w36 (gkg0) #[(.slice g0A0 g0n0 g0c0), (.slice g0A1 g0n1 g0c1)] 38 := (Box.b kg0 b36)
      clear kg0; have kg0 := kg0_; clear kg0_
      (try simp only [Act.put, List.setIfInBounds_toArray, List.set_cons_zero, List.set_cons_succ])
      have hS : ∀ W, Later w36 W → (Below w.heap.size w W ∧ Below w36.heap.size w36 W ∧ W.cell? ⟨w.heap.size, 0, none⟩ = some (.int .i64 kI0) ∧ W.cell? ⟨w.heap.size, 1, none⟩ = some ((.slice kA1 kn1 kc1)) ∧ W.cell? ⟨w.heap.size + 1, 0, none⟩ = some ((.slice xA0 xn0 xc0)) ∧ W.cell? ⟨w.heap.size + 1, 1, none⟩ = some ((.slice xA1 xn1 xc1)) ∧ W.cell? ⟨w.heap.size + 1, 2, none⟩ = some ((.slice xA2 xn2 xc2)) ∧ W.cell? ⟨w.heap.size + 1, 3, none⟩ = some ((.slice xA3 xn3 xc3)) ∧ W.cell? ⟨w.heap.size + 1, 4, none⟩ = some ((.slice xA4 xn4 xc4)) ∧ W.cell? ⟨w.heap.size + 1, 5, none⟩ = some ((.slice xA5 xn5 xc5)) ∧ W.cell? ⟨w.heap.size + 1 + 1, 0, none⟩ = some (.int .i64 oI0) ∧ W.cell? ⟨w.heap.size + 1 + 1, 1, none⟩ = some (.int .i64 oI1)) := fun W hW => ⟨Below.trans (b := _) (by repeat (with_reducible (first | assumption | exact Below.refl _ _ | refine Below.alloc ?_ (by first | omega | (simp; done) | (simp; omega)) _ | refine Below.setCell ?_ (by first | omega | (simp; done) | (simp; omega)) _ | refine Below.drew ?_ | refine below_drewN ?_ _))) (Below.mono hW (by first | omega | (simp [size_drew]; done) | (simp [size_drew]; omega))), Below.trans (b := _) (by repeat (with_reducible (first | assumption | exact Below.refl _ _ | refine Below.alloc ?_ (by first | omega | (simp; done) | (simp; omega)) _ | refine Below.setCell ?_ (by first | omega | (simp; done) | (simp; omega)) _ | refine Below.drew ?_ | refine below_drewN ?_ _))) (Below.mono hW (by first | omega | (simp [size_drew]; done) | (simp [size_drew]; omega))), (Box.below pk hW (by first | omega | (simp [size_drew]; done) | (simp [size_drew]; omega))).two.1, (Box.below pk hW (by first | omega | (simp [size_drew]; done) | (simp [size_drew]; omega))).two.2.1, (Box.below px hW (by first | omega | (simp [size_drew]; done) | (simp [size_drew]; omega))).six.1, (Box.below px hW (by first | omega | (simp [size_drew]; done) | (simp [size_drew]; omega))).six.2.1, (Box.below px hW (by first | omega | (simp [size_drew]; done) | (simp [size_drew]; omega))).six.2.2.1, (Box.below px hW (by first | omega | (simp [size_drew]; done) | (simp [size_drew]; omega))).six.2.2.2.1, (Box.below px hW (by first | omega | (simp [size_drew]; done) | (simp [size_drew]; omega))).six.2.2.2.2.1, (Box.below px hW (by first | omega | (simp [size_drew]; done) | (simp [size_drew]; omega))).six.2.2.2.2.2.1, (Box.below po hW (by first | omega | (simp [size_drew]; done) | (simp [size_drew]; omega))).two.1, (Box.below po hW (by first | omega | (simp [size_drew]; done) | (simp [size_drew]; omega))).two.2.1⟩
      refine callM hG (i := 6) (by simp only [List.getElem?_toArray, List.getElem?_cons_succ, List.getElem?_cons_zero] <;> rfl) (by kernel_rfl) (by rfl) (by rfl) (by intro W hW; have hSw := hS W hW; (try dsimp only at hSw); go_simp; (first | done | with_reducible rfl | exact ⟨rfl, rfl⟩)) ?_
      intro w37 b37
      have B37 : Below w.heap.size w w37 := (hS w37 b37).1
      have z37 := Below.size b37
      (try simp only [World.size_alloc, World.size_setCell, size_drew] at z37)
      have rw0_ := (rw0.below b37)
      clear rw0; have rw0 := rw0_; clear rw0_
      have rg0_ := (rg0.below b37)
      clear rg0; have rg0 := rg0_; clear rg0_
      have rtk_ := (rtk.below b37)
      clear rtk; have rtk := rtk_; clear rtk_
      have rtx_ := (rtx.below b37)
      clear rtx; have rtx := rtx_; clear rtx_
      have pk_ : Box w37 (w.heap.size) #[.int .i64 kI0, (.slice kA1 kn1 kc1)] 30 := (Box.b pk b37)
      clear pk; have pk := pk_; clear pk_
      have px_ : Box w37 (w.heap.size + 1) #[(.slice xA0 xn0 xc0), (.slice xA1 xn1 xc1), (.slice xA2 xn2 xc2), (.slice xA3 xn3 xc3), (.slice xA4 xn4 xc4), (.slice xA5 xn5 xc5)] 64 := (Box.b px b37)
      clear px; have px := px_; clear px_
      have po_ : Box w37 (w.heap.size + 1 + 1) #[.int .i64 oI0, .int .i64 oI1] 90 := (Box.b po b37)
      clear po; have po := po_; clear po_
      have kw0_ : Box w37 (gkw0) #[(.slice w0A0 w0n0 w0c0), (.slice w0A1 w0n1 w0c1)] 38 := (Box.b kw0 b37)
      clear kw0; have kw0 := kw0_; clear kw0_
      have kg0_ : Box w37 (gkg0) #[(.slice g0A0 g0n0 g0c0), (.slice g0A1 g0n1 g0c1)] 38 := (Box.b kg0 b37)
      clear kg0; have kg0 := kg0_; clear kg0_
      clear hS hG
      go_at_call 82
      refine (iTripleUse_L kI0 rtk.rd kL1n rtx.rd xL0n xL1n xL2n xL3n xL4n xL5n oI0 oI1).mono ?_
      rintro e w38 ⟨h0A0, h0n0, h0c0, h0A1, h0n1, h0c1, rfl, rh0, b38⟩
      refine ⟨_, rfl, b38, fun hG => ?_⟩
      have z38 := Below.size b38
      have B38 : Below w.heap.size w w38 := Below.t b38
      have rw0_ := (rw0.below b38)
      clear rw0; have rw0 := rw0_; clear rw0_
      have rg0_ := (rg0.below b38)
      clear rg0; have rg0 := rg0_; clear rg0_
      have rtk_ := (rtk.below b38)
      clear rtk; have rtk := rtk_; clear rtk_
      have rtx_ := (rtx.below b38)
      clear rtx; have rtx := rtx_; clear rtx_
      have pk_ : Box w38 (w.heap.size) #[.int .i64 kI0, (.slice kA1 kn1 kc1)] 30 := (Box.b pk b38)
      clear pk; have pk := pk_; clear pk_
      have px_ : Box w38 (w.heap.size + 1) #[(.slice xA0 xn0 xc0), (.slice xA1 xn1 xc1), (.slice xA2 xn2 xc2), (.slice xA3 xn3 xc3), (.slice xA4 xn4 xc4), (.slice xA5 xn5 xc5)] 64 := (Box.b px b38)
      clear px; have px := px_; clear px_
      have po_ : Box w38 (w.heap.size + 1 + 1) #[.int .i64 oI0, .int .i64 oI1] 90 := (Box.b po b38)
      clear po; have po := po_; clear po_
      have kw0_ : Box w38 (gkw0) #[(.slice w0A0 w0n0 w0c0), (.slice w0A1 w0n1 w0c1)] 38 := (Box.b kw0 b38)
      clear kw0; have kw0 := kw0_; clear kw0_
      have kg0_ : Box w38 (gkg0) #[(.slice g0A0 g0n0 g0c0), (.slice g0A1 g0n1 g0c1)] 38 := (Box.b kg0 b38)
      clear kg0; have kg0 := kg0_; clear kg0_
      (try simp only [Act.put, List.setIfInBounds_toArray, List.set_cons_zero, List.set_cons_succ])
      have hS : ∀ W, Later w38 W → (Below w.heap.size w W ∧ Below w38.heap.size w38 W ∧ W.cell? ⟨w.heap.size, 0, none⟩ = some (.int .i64 kI0) ∧ W.cell? ⟨w.heap.size, 1, none⟩ = some ((.slice kA1 kn1 kc1)) ∧ W.cell? ⟨w.heap.size + 1, 0, none⟩ = some ((.slice xA0 xn0 xc0)) ∧ W.cell? ⟨w.heap.size + 1, 1, none⟩ = some ((.slice xA1 xn1 xc1)) ∧ W.cell? ⟨w.heap.size + 1, 2, none⟩ = some ((.slice xA2 xn2 xc2)) ∧ W.cell? ⟨w.heap.size + 1, 3, none⟩ = some ((.slice xA3 xn3 xc3)) ∧ W.cell? ⟨w.heap.size + 1, 4, none⟩ = some ((.slice xA4 xn4 xc4)) ∧ W.cell? ⟨w.heap.size + 1, 5, none⟩ = some ((.slice xA5 xn5 xc5)) ∧ W.cell? ⟨w.heap.size + 1 + 1, 0, none⟩ = some (.int .i64 oI0) ∧ W.cell? ⟨w.heap.size + 1 + 1, 1, none⟩ = some (.int .i64 oI1)) := fun W hW => ⟨Below.trans (b := _) (by repeat (with_reducible (first | assumption | exact Below.refl _ _ | refine Below.alloc ?_ (by first | omega | (simp; done) | (simp; omega)) _ | refine Below.setCell ?_ (by first | omega | (simp; done) | (simp; omega)) _ | refine Below.drew ?_ | refine below_drewN ?_ _))) (Below.mono hW (by first | omega | (simp [size_drew]; done) | (simp [size_drew]; omega))), Below.trans (b := _) (by repeat (with_reducible (first | assumption | exact Below.refl _ _ | refine Below.alloc ?_ (by first | omega | (simp; done) | (simp; omega)) _ | refine Below.setCell ?_ (by first | omega | (simp; done) | (simp; omega)) _ | refine Below.drew ?_ | refine below_drewN ?_ _))) (Below.mono hW (by first | omega | (simp [size_drew]; done) | (simp [size_drew]; omega))), (Box.below pk hW (by first | omega | (simp [size_drew]; done) | (simp [size_drew]; omega))).two.1, (Box.below pk hW (by first | omega | (simp [size_drew]; done) | (simp [size_drew]; omega))).two.2.1, (Box.below px hW (by first | omega | (simp [size_drew]; done) | (simp [size_drew]; omega))).six.1, (Box.below px hW (by first | omega | (simp [size_drew]; done) | (simp [size_drew]; omega))).six.2.1, (Box.below px hW (by first | omega | (simp [size_drew]; done) | (simp [size_drew]; omega))).six.2.2.1, (Box.below px hW (by first | omega | (simp [size_drew]; done) | (simp [size_drew]; omega))).six.2.2.2.1, (Box.below px hW (by first | omega | (simp [size_drew]; done) | (simp [size_drew]; omega))).six.2.2.2.2.1, (Box.below px hW (by first | omega | (simp [size_drew]; done) | (simp [size_drew]; omega))).six.2.2.2.2.2.1, (Box.below po hW (by first | omega | (simp [size_drew]; done) | (simp [size_drew]; omega))).two.1, (Box.below po hW (by first | omega | (simp [size_drew]; done) | (simp [size_drew]; omega))).two.2.1⟩
      refine storeM (z := 8) (by simp only [List.getElem?_toArray, List.getElem?_cons_succ, List.getElem?_cons_zero] <;> rfl) (by kernel_rfl) (by rfl) (by rfl) ?_
      intro w39 b39
      have B39 : Below w.heap.size w w39 := (hS w39 b39).1
      have z39 := Below.size b39
      (try simp only [World.size_alloc, World.size_setCell, size_drew] at z39)
      have rw0_ := (rw0.below b39)
      clear rw0; have rw0 := rw0_; clear rw0_
      have rg0_ := (rg0.below b39)
      clear rg0; have rg0 := rg0_; clear rg0_
      have rtk_ := (rtk.below b39)
      clear rtk; have rtk := rtk_; clear rtk_
      have rtx_ := (rtx.below b39)
      clear rtx; have rtx := rtx_; clear rtx_
      have rh0_ := (rh0.below b39)
      clear rh0; have rh0 := rh0_; clear rh0_
      have pk_ : Box w39 (w.heap.size) #[.int .i64 kI0, (.slice kA1 kn1 kc1)] 30 := (Box.b pk b39)
      clear pk; have pk := pk_; clear pk_
      have px_ : Box w39 (w.heap.size + 1) #[(.slice xA0 xn0 xc0), (.slice xA1 xn1 xc1), (.slice xA2 xn2 xc2), (.slice xA3 xn3 xc3), (.slice xA4 xn4 xc4), (.slice xA5 xn5 xc5)] 64 := (Box.b px b39)
      clear px; have px := px_; clear px_
      have po_ : Box w39 (w.heap.size + 1 + 1) #[.int .i64 oI0, .int .i64 oI1] 90 := (Box.b po b39)
      clear po; have po := po_; clear po_
      have kw0_ : Box w39 (gkw0) #[(.slice w0A0 w0n0 w0c0), (.slice w0A1 w0n1 w0c1)] 38 := (Box.b kw0 b39)
      clear kw0; have kw0 := kw0_; clear kw0_
      have kg0_ : Box w39 (gkg0) #[(.slice g0A0 g0n0 g0c0), (.slice g0A1 g0n1 g0c1)] 38 := (Box.b kg0 b39)
      clear kg0; have kg0 := kg0_; clear kg0_
      clear hS hG
      refine Zc.cons fun gkh0 kh0 nkh0 => ?_
      have nkh0_0 := nkh0 (w37.heap.size, w38.heap.size) (by simp)
      dsimp only at nkh0_0 kh0
      have nkh0_1 := nkh0 (w35.heap.size, w36.heap.size) (by simp)
      dsimp only at nkh0_1 kh0
      have nkh0_2 := nkh0 (w33.heap.size, w34.heap.size) (by simp)
      dsimp only at nkh0_2 kh0
      have nkh0_3 := nkh0 (w31.heap.size, w32.heap.size) (by simp)
      dsimp only at nkh0_3 kh0
      have nkh0_4 := nkh0 (0, w30.heap.size) (by simp)
      dsimp only at nkh0_4 kh0
      clear nkh0
      refine Zc.nil ?_
      (try unfold ptr)
      (try simp only [Act.put, List.setIfInBounds_toArray, List.set_cons_zero, List.set_cons_succ])
      have lkh0 := kh0.lt
      obtain ⟨ckh0_0, ckh0_1, fkh0_0, fkh0_1⟩ := kh0.two
      refine ⟨_, by go_simp; (first | done | with_reducible rfl | exact ⟨rfl, rfl⟩), ?_⟩
      (try simp only [Act.put, List.setIfInBounds_toArray, List.set_cons_zero, List.set_cons_succ])
      refine wpAny_done (by kernel_rfl) ?_ _
      clear ckh0_0 ckh0_1 fkh0_0 fkh0_1
      generalize hw40 : World.setCell _ _ _ = w40
      have z40 : w39.heap.size ≤ w40.heap.size := by rw [← hw40]; simp
      have B40 : Below w.heap.size w w40 := by rw [← hw40]; repeat (with_reducible (first | assumption | exact Below.refl _ _ | refine Below.alloc ?_ (by first | omega | (simp; done) | (simp; omega)) _ | refine Below.setCell ?_ (by first | omega | (simp; done) | (simp; omega)) _ | refine Below.drew ?_ | refine below_drewN ?_ _))
      have hK : ∀ k, k ≠ gkh0 → k < w39.heap.size → w40.heap[k]? = w39.heap[k]? := by
        intro k h0 _; rw [← hw40]
        repeat (first | rfl | refine (Below.heap_setCell _ _ _ _ (by first | exact h0)).trans ?_)
      have rw0_ := rw0.keepBlock z40 (fun k h1 h2 => hK k (by omega) (by have := rw0.2.1; omega))
      clear rw0; have rw0 := rw0_; clear rw0_
      have rg0_ := rg0.keepBlock z40 (fun k h1 h2 => hK k (by omega) (by have := rg0.2.1; omega))
      clear rg0; have rg0 := rg0_; clear rg0_
      have rtk_ := rtk.keepBlock z40 (fun k h1 h2 => hK k (by omega) (by have := rtk.2.1; omega))
      clear rtk; have rtk := rtk_; clear rtk_
      have rtx_ := rtx.keepBlock z40 (fun k h1 h2 => hK k (by omega) (by have := rtx.2.1; omega))
      clear rtx; have rtx := rtx_; clear rtx_
      have rh0_ := rh0.keepBlock z40 (fun k h1 h2 => hK k (by omega) (by have := rh0.2.1; omega))
      clear rh0; have rh0 := rh0_; clear rh0_
      have pk_ : Box w40 (w.heap.size) #[.int .i64 kI0, (.slice kA1 kn1 kc1)] 30 := (by rw [← hw40]; exact ((pk.far (by omega)).far (by omega)))
      clear pk; have pk := pk_; clear pk_
      have px_ : Box w40 (w.heap.size + 1) #[(.slice xA0 xn0 xc0), (.slice xA1 xn1 xc1), (.slice xA2 xn2 xc2), (.slice xA3 xn3 xc3), (.slice xA4 xn4 xc4), (.slice xA5 xn5 xc5)] 64 := (by rw [← hw40]; exact ((px.far (by omega)).far (by omega)))
      clear px; have px := px_; clear px_
      have po_ : Box w40 (w.heap.size + 1 + 1) #[.int .i64 oI0, .int .i64 oI1] 90 := (by rw [← hw40]; exact ((po.far (by omega)).far (by omega)))
      clear po; have po := po_; clear po_
      have kw0_ : Box w40 (gkw0) #[(.slice w0A0 w0n0 w0c0), (.slice w0A1 w0n1 w0c1)] 38 := (by rw [← hw40]; exact ((kw0.far (by omega)).far (by omega)))
      clear kw0; have kw0 := kw0_; clear kw0_
      have kg0_ : Box w40 (gkg0) #[(.slice g0A0 g0n0 g0c0), (.slice g0A1 g0n1 g0c1)] 38 := (by rw [← hw40]; exact ((kg0.far (by omega)).far (by omega)))
      clear kg0; have kg0 := kg0_; clear kg0_
      have kh0_ : Box w40 (gkh0) #[(.slice h0A0 h0n0 h0c0), (.slice h0A1 h0n1 h0c1)] 38 := (by rw [← hw40]; exact ((kh0.setAt (i := 0) (v := (.slice h0A0 h0n0 h0c0)) (ds := #[(.slice h0A0 h0n0 h0c0), .slice none 0 0]) (by simp)).setAt (i := 1) (v := (.slice h0A1 h0n1 h0c1)) (ds := #[(.slice h0A0 h0n0 h0c0), (.slice h0A1 h0n1 h0c1)]) (by simp)))
      clear kh0; have kh0 := kh0_; clear kh0_
      clear hw40 hK
      obtain ⟨ckh0_0, ckh0_1, fkh0_0, fkh0_1⟩ := kh0.two
      have l_kh0_0 : gkh0 < w40.heap.size := by omega
      obtain ⟨ckw0_0, ckw0_1, fkw0_0, fkw0_1⟩ := kw0.two
      have l_kw0_0 : gkw0 < w40.heap.size := by omega
      go_wp2_with fail
      refine (eqAuth_L rh0.rd rw0.rd rL0_0n rL0_1n).mono ?_
      rintro e w41 ⟨rfl, b41⟩
      clear ckh0_0 ckh0_1 fkh0_0 fkh0_1 l_kh0_0 ckw0_0 ckw0_1 fkw0_0 fkw0_1 l_kw0_0
      have z41 := b41.size
      try simp only [World.size_alloc, World.size_setCell, size_drew] at z41
      have B41 : Below w.heap.size w w41 := Below.t b41
      have rw0_ := rw0.below b41
      clear rw0; have rw0 := rw0_; clear rw0_
      have rg0_ := rg0.below b41
      clear rg0; have rg0 := rg0_; clear rg0_
      have rh0_ := rh0.below b41
      clear rh0; have rh0 := rh0_; clear rh0_
      have pk_ : Box w41 (w.heap.size) #[.int .i64 kI0, (.slice kA1 kn1 kc1)] 30 := pk.below b41 (by first | omega | (simp [size_drew]; done) | (simp [size_drew]; omega))
      clear pk; have pk := pk_; clear pk_
      have px_ : Box w41 (w.heap.size + 1) #[(.slice xA0 xn0 xc0), (.slice xA1 xn1 xc1), (.slice xA2 xn2 xc2), (.slice xA3 xn3 xc3), (.slice xA4 xn4 xc4), (.slice xA5 xn5 xc5)] 64 := px.below b41 (by first | omega | (simp [size_drew]; done) | (simp [size_drew]; omega))
      clear px; have px := px_; clear px_
      have po_ : Box w41 (w.heap.size + 1 + 1) #[.int .i64 oI0, .int .i64 oI1] 90 := po.below b41 (by first | omega | (simp [size_drew]; done) | (simp [size_drew]; omega))
      clear po; have po := po_; clear po_
      have kw0_ : Box w41 (gkw0) #[(.slice w0A0 w0n0 w0c0), (.slice w0A1 w0n1 w0c1)] 38 := kw0.below b41 (by first | omega | (simp [size_drew]; done) | (simp [size_drew]; omega))
      clear kw0; have kw0 := kw0_; clear kw0_
      have kg0_ : Box w41 (gkg0) #[(.slice g0A0 g0n0 g0c0), (.slice g0A1 g0n1 g0c1)] 38 := kg0.below b41 (by first | omega | (simp [size_drew]; done) | (simp [size_drew]; omega))
      clear kg0; have kg0 := kg0_; clear kg0_
      have kh0_ : Box w41 (gkh0) #[(.slice h0A0 h0n0 h0c0), (.slice h0A1 h0n1 h0c1)] 38 := kh0.below b41 (by first | omega | (simp [size_drew]; done) | (simp [size_drew]; omega))
      clear kh0; have kh0 := kh0_; clear kh0_
      obtain ⟨ckg0_0, ckg0_1, fkg0_0, fkg0_1⟩ := kg0.two
      have l_kg0_0 : gkg0 < w41.heap.size := by omega
      go_wp2_with fail
      refine (heldAuth_L (uS kI0 kL1 xL0 xL1 xL2 xL3 xL4 xL5 oI0 oI1).length (uM kI0 kL1 xL0 xL1 xL2 xL3 xL4 xL5 oI0 oI1).length (1) _ rg0.rd (by first | omega | (simp [size_drew]; done) | (simp [size_drew]; omega)) (by omega) rL0_0n rL0_1n).mono ?_
      rintro e w42 ⟨rfl, b42⟩
      clear ckg0_0 ckg0_1 fkg0_0 fkg0_1 l_kg0_0
      have z42 := b42.size
      try simp only [World.size_alloc, World.size_setCell, size_drew] at z42
      have B42 : Below w.heap.size w w42 := Below.t b42
      have rw0_ := rw0.below b42
      clear rw0; have rw0 := rw0_; clear rw0_
      have rg0_ := rg0.below b42
      clear rg0; have rg0 := rg0_; clear rg0_
      have rh0_ := rh0.below b42
      clear rh0; have rh0 := rh0_; clear rh0_
      have pk_ : Box w42 (w.heap.size) #[.int .i64 kI0, (.slice kA1 kn1 kc1)] 30 := pk.below b42 (by first | omega | (simp [size_drew]; done) | (simp [size_drew]; omega))
      clear pk; have pk := pk_; clear pk_
      have px_ : Box w42 (w.heap.size + 1) #[(.slice xA0 xn0 xc0), (.slice xA1 xn1 xc1), (.slice xA2 xn2 xc2), (.slice xA3 xn3 xc3), (.slice xA4 xn4 xc4), (.slice xA5 xn5 xc5)] 64 := px.below b42 (by first | omega | (simp [size_drew]; done) | (simp [size_drew]; omega))
      clear px; have px := px_; clear px_
      have po_ : Box w42 (w.heap.size + 1 + 1) #[.int .i64 oI0, .int .i64 oI1] 90 := po.below b42 (by first | omega | (simp [size_drew]; done) | (simp [size_drew]; omega))
      clear po; have po := po_; clear po_
      have kw0_ : Box w42 (gkw0) #[(.slice w0A0 w0n0 w0c0), (.slice w0A1 w0n1 w0c1)] 38 := kw0.below b42 (by first | omega | (simp [size_drew]; done) | (simp [size_drew]; omega))
      clear kw0; have kw0 := kw0_; clear kw0_
      have kg0_ : Box w42 (gkg0) #[(.slice g0A0 g0n0 g0c0), (.slice g0A1 g0n1 g0c1)] 38 := kg0.below b42 (by first | omega | (simp [size_drew]; done) | (simp [size_drew]; omega))
      clear kg0; have kg0 := kg0_; clear kg0_
      have kh0_ : Box w42 (gkh0) #[(.slice h0A0 h0n0 h0c0), (.slice h0A1 h0n1 h0c1)] 38 := kh0.below b42 (by first | omega | (simp [size_drew]; done) | (simp [size_drew]; omega))
      clear kh0; have kh0 := kh0_; clear kh0_
      go_wp2_with fail
      go_ret
      exact ⟨rfl, B42⟩
    · skip
      go_enter Try.func23, Try.ntmps23
      go_wp2_with fail
      refine (szKeys_yes kI0 kL1h.b (1048576) _ (by first | rfl | simp) (by omega) (by omega)).mono ?_
      rintro e w1 ⟨rfl, b1⟩
      have z1 := b1.size
      try simp only [World.size_alloc, World.size_setCell, size_drew] at z1
      have B1 : Below w.heap.size w w1 := Below.t b1
      have pk_ : Box w1 (w.heap.size) #[.int .i64 kI0, (.slice kA1 kn1 kc1)] 30 := (((Box.new (g := w.heap.size) _ #[.int .i64 kI0, (.slice kA1 kn1 kc1)] 30 (by simp)).alloc _).alloc _).below b1 (by first | omega | (simp [size_drew]; done) | (simp [size_drew]; omega))
      have pk := pk_; clear pk_
      have px_ : Box w1 (w.heap.size + 1) #[(.slice xA0 xn0 xc0), (.slice xA1 xn1 xc1), (.slice xA2 xn2 xc2), (.slice xA3 xn3 xc3), (.slice xA4 xn4 xc4), (.slice xA5 xn5 xc5)] 64 := ((Box.new (g := w.heap.size + 1) _ #[(.slice xA0 xn0 xc0), (.slice xA1 xn1 xc1), (.slice xA2 xn2 xc2), (.slice xA3 xn3 xc3), (.slice xA4 xn4 xc4), (.slice xA5 xn5 xc5)] 64 (by simp)).alloc _).below b1 (by first | omega | (simp [size_drew]; done) | (simp [size_drew]; omega))
      have px := px_; clear px_
      have po_ : Box w1 (w.heap.size + 1 + 1) #[.int .i64 oI0, .int .i64 oI1] 90 := (Box.new (g := w.heap.size + 1 + 1) _ #[.int .i64 oI0, .int .i64 oI1] 90 (by simp)).below b1 (by first | omega | (simp [size_drew]; done) | (simp [size_drew]; omega))
      have po := po_; clear po_
      obtain ⟨cpx_0, cpx_1, cpx_2, cpx_3, cpx_4, cpx_5, fpx_0, fpx_1, fpx_2, fpx_3, fpx_4, fpx_5⟩ := px.six
      have l_px_0 : w.heap.size + 1 < w1.heap.size := by omega
      go_wp2_with fail
      refine (szTriple_no xL0h.b xL1h.b xL2h.b xL3h.b xL4h.b xL5h.b (1048576 - (kL1.length)) _ (by first | rfl | simp) (by omega) (by omega)).mono ?_
      rintro e w2 ⟨rfl, b2⟩
      clear cpx_0 cpx_1 cpx_2 cpx_3 cpx_4 cpx_5 fpx_0 fpx_1 fpx_2 fpx_3 fpx_4 fpx_5 l_px_0
      have z2 := b2.size
      try simp only [World.size_alloc, World.size_setCell, size_drew] at z2
      have B2 : Below w.heap.size w w2 := Below.t b2
      have pk_ : Box w2 (w.heap.size) #[.int .i64 kI0, (.slice kA1 kn1 kc1)] 30 := pk.below b2 (by first | omega | (simp [size_drew]; done) | (simp [size_drew]; omega))
      clear pk; have pk := pk_; clear pk_
      have px_ : Box w2 (w.heap.size + 1) #[(.slice xA0 xn0 xc0), (.slice xA1 xn1 xc1), (.slice xA2 xn2 xc2), (.slice xA3 xn3 xc3), (.slice xA4 xn4 xc4), (.slice xA5 xn5 xc5)] 64 := px.below b2 (by first | omega | (simp [size_drew]; done) | (simp [size_drew]; omega))
      clear px; have px := px_; clear px_
      have po_ : Box w2 (w.heap.size + 1 + 1) #[.int .i64 oI0, .int .i64 oI1] 90 := po.below b2 (by first | omega | (simp [size_drew]; done) | (simp [size_drew]; omega))
      clear po; have po := po_; clear po_
      go_wp2
      go_ret
      exact ⟨rfl, B2⟩
  · skip
    go_enter Try.func23, Try.ntmps23
    go_wp2_with fail
    refine (szKeys_no kI0 kL1h.b (1048576) _ (by first | rfl | simp) (by omega) (by omega)).mono ?_
    rintro e w1 ⟨rfl, b1⟩
    have z1 := b1.size
    try simp only [World.size_alloc, World.size_setCell, size_drew] at z1
    have B1 : Below w.heap.size w w1 := Below.t b1
    have pk_ : Box w1 (w.heap.size) #[.int .i64 kI0, (.slice kA1 kn1 kc1)] 30 := (((Box.new (g := w.heap.size) _ #[.int .i64 kI0, (.slice kA1 kn1 kc1)] 30 (by simp)).alloc _).alloc _).below b1 (by first | omega | (simp [size_drew]; done) | (simp [size_drew]; omega))
    have pk := pk_; clear pk_
    have px_ : Box w1 (w.heap.size + 1) #[(.slice xA0 xn0 xc0), (.slice xA1 xn1 xc1), (.slice xA2 xn2 xc2), (.slice xA3 xn3 xc3), (.slice xA4 xn4 xc4), (.slice xA5 xn5 xc5)] 64 := ((Box.new (g := w.heap.size + 1) _ #[(.slice xA0 xn0 xc0), (.slice xA1 xn1 xc1), (.slice xA2 xn2 xc2), (.slice xA3 xn3 xc3), (.slice xA4 xn4 xc4), (.slice xA5 xn5 xc5)] 64 (by simp)).alloc _).below b1 (by first | omega | (simp [size_drew]; done) | (simp [size_drew]; omega))
    have px := px_; clear px_
    have po_ : Box w1 (w.heap.size + 1 + 1) #[.int .i64 oI0, .int .i64 oI1] 90 := (Box.new (g := w.heap.size + 1 + 1) _ #[.int .i64 oI0, .int .i64 oI1] 90 (by simp)).below b1 (by first | omega | (simp [size_drew]; done) | (simp [size_drew]; omega))
    have po := po_; clear po_
    go_wp2
    go_ret
    exact ⟨rfl, B1⟩
end Go.Proofs.Ytllnnbmgdbinnaa

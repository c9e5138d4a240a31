/- The walk of the law FnExactTripleOpen. Printed by laws2.py. -/
import Derived.Test.YtllnnbmgdbinnaaTri
import Derived.Test.YtllnnbmgdbinnaaHk
import Derived.Test.YtllnnbmgdbinnaaAuto
namespace Go.Proofs.Ytllnnbmgdbinnaa
set_option linter.unusedSimpArgs false
set_option linter.unusedVariables false
open Go.RowKit
set_option maxRecDepth 100000 in
set_option maxHeartbeats 2000000 in
theorem walk_FnExactTripleOpen (kI0 : Int) (kL1V : Value) (kL1 : List Int) (aL0V : Value) (aL0 : List Int) (aL1V : Value) (aL1 : List Int) (bL0V : Value) (bL0 : List Int) (bL1V : Value) (bL1 : List Int) (xL0V : Value) (xL0 : List Int) (xL1V : Value) (xL1 : List Int) (xL2V : Value) (xL2 : List Int) (xL3V : Value) (xL3 : List Int) (xL4V : Value) (xL4 : List Int) (xL5V : Value) (xL5 : List Int) (w : World) (kL1h : Rd0 w kL1V kL1) (aL0h : Rd0 w aL0V aL0) (aL1h : Rd0 w aL1V aL1) (bL0h : Rd0 w bL0V bL0) (bL1h : Rd0 w bL1V bL1) (xL0h : Rd0 w xL0V xL0) (xL1h : Rd0 w xL1V xL1) (xL2h : Rd0 w xL2V xL2) (xL3h : Rd0 w xL3V xL3) (xL4h : Rd0 w xL4V xL4) (xL5h : Rd0 w xL5V xL5) :
    Calls Try.prog 14 #[.agg #[.int .i64 kI0, kL1V], .agg #[aL0V, aL1V], .agg #[bL0V, bL1V], .agg #[xL0V, xL1V, xL2V, xL3V, xL4V, xL5V]] w fun e w' => e = .returned (.bool true) ∧ Below w.heap.size w w' := by
  obtain ⟨kA1, kn1, kc1, rfl, kL1x, kL1I⟩ := kL1h
  have kL1h : Rd0 w (.slice kA1 kn1 kc1) kL1 := ⟨_, _, _, rfl, kL1x, kL1I⟩
  obtain ⟨aA0, an0, ac0, rfl, aL0x, aL0I⟩ := aL0h
  have aL0h : Rd0 w (.slice aA0 an0 ac0) aL0 := ⟨_, _, _, rfl, aL0x, aL0I⟩
  obtain ⟨aA1, an1, ac1, rfl, aL1x, aL1I⟩ := aL1h
  have aL1h : Rd0 w (.slice aA1 an1 ac1) aL1 := ⟨_, _, _, rfl, aL1x, aL1I⟩
  obtain ⟨bA0, bn0, bc0, rfl, bL0x, bL0I⟩ := bL0h
  have bL0h : Rd0 w (.slice bA0 bn0 bc0) bL0 := ⟨_, _, _, rfl, bL0x, bL0I⟩
  obtain ⟨bA1, bn1, bc1, rfl, bL1x, bL1I⟩ := bL1h
  have bL1h : Rd0 w (.slice bA1 bn1 bc1) bL1 := ⟨_, _, _, rfl, bL1x, bL1I⟩
  obtain ⟨xA0, xn0, xc0, rfl, xL0x, xL0I⟩ := xL0h
  have xL0h : Rd0 w (.slice xA0 xn0 xc0) xL0 := ⟨_, _, _, rfl, xL0x, xL0I⟩
  obtain ⟨xA1, xn1, xc1, rfl, xL1x, xL1I⟩ := xL1h
  have xL1h : Rd0 w (.slice xA1 xn1 xc1) xL1 := ⟨_, _, _, rfl, xL1x, xL1I⟩
  obtain ⟨xA2, xn2, xc2, rfl, xL2x, xL2I⟩ := xL2h
  have xL2h : Rd0 w (.slice xA2 xn2 xc2) xL2 := ⟨_, _, _, rfl, xL2x, xL2I⟩
  obtain ⟨xA3, xn3, xc3, rfl, xL3x, xL3I⟩ := xL3h
  have xL3h : Rd0 w (.slice xA3 xn3 xc3) xL3 := ⟨_, _, _, rfl, xL3x, xL3I⟩
  obtain ⟨xA4, xn4, xc4, rfl, xL4x, xL4I⟩ := xL4h
  have xL4h : Rd0 w (.slice xA4 xn4 xc4) xL4 := ⟨_, _, _, rfl, xL4x, xL4I⟩
  obtain ⟨xA5, xn5, xc5, rfl, xL5x, xL5I⟩ := xL5h
  have xL5h : Rd0 w (.slice xA5 xn5 xc5) xL5 := ⟨_, _, _, rfl, xL5x, xL5I⟩
  by_cases sz0 : (kL1.length) ≤ 1048576
  · skip
    by_cases sz1 : (kL1.length) + (aL0.length + aL1.length) ≤ 1048576
    · skip
      by_cases sz2 : (kL1.length) + (aL0.length + aL1.length) + (bL0.length + bL1.length) ≤ 1048576
      · skip
        by_cases sz3 : (kL1.length) + (aL0.length + aL1.length) + (bL0.length + bL1.length) + (xL0.length + xL1.length + xL2.length + xL3.length + xL4.length + xL5.length) ≤ 1048576
        · skip
          have kL1n : kL1.length ≤ 1048576 := by omega
          have aL0n : aL0.length ≤ 1048576 := by omega
          have aL1n : aL1.length ≤ 1048576 := by omega
          have bL0n : bL0.length ≤ 1048576 := by omega
          have bL1n : bL1.length ≤ 1048576 := by omega
          have xL0n : xL0.length ≤ 1048576 := by omega
          have xL1n : xL1.length ≤ 1048576 := by omega
          have xL2n : xL2.length ≤ 1048576 := by omega
          have xL3n : xL3.length ≤ 1048576 := by omega
          have xL4n : xL4.length ≤ 1048576 := by omega
          have xL5n : xL5.length ≤ 1048576 := by omega
          go_enter Try.func14, Try.ntmps14
          go_wp2_with fail
          refine (szKeys_yes kI0 kL1h.b (1048576) _ (by first | rfl | simp) (by omega) (by omega)).mono ?_
          rintro e w1 ⟨rfl, b1⟩
          have z1 := b1.size
          try simp only [World.size_alloc, World.size_setCell, size_drew] at z1
          have B1 : Below w.heap.size w w1 := Below.t b1
          have pk_ : Box w1 (w.heap.size) #[.int .i64 kI0, (.slice kA1 kn1 kc1)] 30 := ((((Box.new (g := w.heap.size) _ #[.int .i64 kI0, (.slice kA1 kn1 kc1)] 30 (by simp)).alloc _).alloc _).alloc _).below b1 (by first | omega | (simp [size_drew]; done) | (simp [size_drew]; omega))
          have pk := pk_; clear pk_
          have pa_ : Box w1 (w.heap.size + 1) #[(.slice aA0 an0 ac0), (.slice aA1 an1 ac1)] 44 := (((Box.new (g := w.heap.size + 1) _ #[(.slice aA0 an0 ac0), (.slice aA1 an1 ac1)] 44 (by simp)).alloc _).alloc _).below b1 (by first | omega | (simp [size_drew]; done) | (simp [size_drew]; omega))
          have pa := pa_; clear pa_
          have pb_ : Box w1 (w.heap.size + 1 + 1) #[(.slice bA0 bn0 bc0), (.slice bA1 bn1 bc1)] 44 := ((Box.new (g := w.heap.size + 1 + 1) _ #[(.slice bA0 bn0 bc0), (.slice bA1 bn1 bc1)] 44 (by simp)).alloc _).below b1 (by first | omega | (simp [size_drew]; done) | (simp [size_drew]; omega))
          have pb := pb_; clear pb_
          have px_ : Box w1 (w.heap.size + 1 + 1 + 1) #[(.slice xA0 xn0 xc0), (.slice xA1 xn1 xc1), (.slice xA2 xn2 xc2), (.slice xA3 xn3 xc3), (.slice xA4 xn4 xc4), (.slice xA5 xn5 xc5)] 64 := (Box.new (g := w.heap.size + 1 + 1 + 1) _ #[(.slice xA0 xn0 xc0), (.slice xA1 xn1 xc1), (.slice xA2 xn2 xc2), (.slice xA3 xn3 xc3), (.slice xA4 xn4 xc4), (.slice xA5 xn5 xc5)] 64 (by simp)).below b1 (by first | omega | (simp [size_drew]; done) | (simp [size_drew]; omega))
          have px := px_; clear px_
          obtain ⟨cpa_0, cpa_1, fpa_0, fpa_1⟩ := pa.two
          have l_pa_0 : w.heap.size + 1 < w1.heap.size := by omega
          go_wp2_with fail
          refine (szAuth_yes aL0h.b aL1h.b (1048576 - (kL1.length)) _ (by first | rfl | simp) (by omega) (by omega)).mono ?_
          rintro e w2 ⟨rfl, b2⟩
          clear cpa_0 cpa_1 fpa_0 fpa_1 l_pa_0
          have z2 := b2.size
          try simp only [World.size_alloc, World.size_setCell, size_drew] at z2
          have B2 : Below w.heap.size w w2 := Below.t b2
          have pk_ : Box w2 (w.heap.size) #[.int .i64 kI0, (.slice kA1 kn1 kc1)] 30 := pk.below b2 (by first | omega | (simp [size_drew]; done) | (simp [size_drew]; omega))
          clear pk; have pk := pk_; clear pk_
          have pa_ : Box w2 (w.heap.size + 1) #[(.slice aA0 an0 ac0), (.slice aA1 an1 ac1)] 44 := pa.below b2 (by first | omega | (simp [size_drew]; done) | (simp [size_drew]; omega))
          clear pa; have pa := pa_; clear pa_
          have pb_ : Box w2 (w.heap.size + 1 + 1) #[(.slice bA0 bn0 bc0), (.slice bA1 bn1 bc1)] 44 := pb.below b2 (by first | omega | (simp [size_drew]; done) | (simp [size_drew]; omega))
          clear pb; have pb := pb_; clear pb_
          have px_ : Box w2 (w.heap.size + 1 + 1 + 1) #[(.slice xA0 xn0 xc0), (.slice xA1 xn1 xc1), (.slice xA2 xn2 xc2), (.slice xA3 xn3 xc3), (.slice xA4 xn4 xc4), (.slice xA5 xn5 xc5)] 64 := px.below b2 (by first | omega | (simp [size_drew]; done) | (simp [size_drew]; omega))
          clear px; have px := px_; clear px_
          obtain ⟨cpb_0, cpb_1, fpb_0, fpb_1⟩ := pb.two
          have l_pb_0 : w.heap.size + 1 + 1 < w2.heap.size := by omega
          go_wp2_with fail
          refine (szAuth_yes bL0h.b bL1h.b (1048576 - (kL1.length) - (aL0.length + aL1.length)) _ (by first | rfl | simp) (by omega) (by omega)).mono ?_
          rintro e w3 ⟨rfl, b3⟩
          clear cpb_0 cpb_1 fpb_0 fpb_1 l_pb_0
          have z3 := b3.size
          try simp only [World.size_alloc, World.size_setCell, size_drew] at z3
          have B3 : Below w.heap.size w w3 := Below.t b3
          have pk_ : Box w3 (w.heap.size) #[.int .i64 kI0, (.slice kA1 kn1 kc1)] 30 := pk.below b3 (by first | omega | (simp [size_drew]; done) | (simp [size_drew]; omega))
          clear pk; have pk := pk_; clear pk_
          have pa_ : Box w3 (w.heap.size + 1) #[(.slice aA0 an0 ac0), (.slice aA1 an1 ac1)] 44 := pa.below b3 (by first | omega | (simp [size_drew]; done) | (simp [size_drew]; omega))
          clear pa; have pa := pa_; clear pa_
          have pb_ : Box w3 (w.heap.size + 1 + 1) #[(.slice bA0 bn0 bc0), (.slice bA1 bn1 bc1)] 44 := pb.below b3 (by first | omega | (simp [size_drew]; done) | (simp [size_drew]; omega))
          clear pb; have pb := pb_; clear pb_
          have px_ : Box w3 (w.heap.size + 1 + 1 + 1) #[(.slice xA0 xn0 xc0), (.slice xA1 xn1 xc1), (.slice xA2 xn2 xc2), (.slice xA3 xn3 xc3), (.slice xA4 xn4 xc4), (.slice xA5 xn5 xc5)] 64 := px.below b3 (by first | omega | (simp [size_drew]; done) | (simp [size_drew]; omega))
          clear px; have px := px_; clear px_
          obtain ⟨cpx_0, cpx_1, cpx_2, cpx_3, cpx_4, cpx_5, fpx_0, fpx_1, fpx_2, fpx_3, fpx_4, fpx_5⟩ := px.six
          have l_px_0 : w.heap.size + 1 + 1 + 1 < w3.heap.size := by omega
          go_wp2_with fail
          refine (szTriple_yes xL0h.b xL1h.b xL2h.b xL3h.b xL4h.b xL5h.b (1048576 - (kL1.length) - (aL0.length + aL1.length) - (bL0.length + bL1.length)) _ (by first | rfl | simp) (by omega) (by omega)).mono ?_
          rintro e w4 ⟨rfl, b4⟩
          clear cpx_0 cpx_1 cpx_2 cpx_3 cpx_4 cpx_5 fpx_0 fpx_1 fpx_2 fpx_3 fpx_4 fpx_5 l_px_0
          have z4 := b4.size
          try simp only [World.size_alloc, World.size_setCell, size_drew] at z4
          have B4 : Below w.heap.size w w4 := Below.t b4
          have pk_ : Box w4 (w.heap.size) #[.int .i64 kI0, (.slice kA1 kn1 kc1)] 30 := pk.below b4 (by first | omega | (simp [size_drew]; done) | (simp [size_drew]; omega))
          clear pk; have pk := pk_; clear pk_
          have pa_ : Box w4 (w.heap.size + 1) #[(.slice aA0 an0 ac0), (.slice aA1 an1 ac1)] 44 := pa.below b4 (by first | omega | (simp [size_drew]; done) | (simp [size_drew]; omega))
          clear pa; have pa := pa_; clear pa_
          have pb_ : Box w4 (w.heap.size + 1 + 1) #[(.slice bA0 bn0 bc0), (.slice bA1 bn1 bc1)] 44 := pb.below b4 (by first | omega | (simp [size_drew]; done) | (simp [size_drew]; omega))
          clear pb; have pb := pb_; clear pb_
          have px_ : Box w4 (w.heap.size + 1 + 1 + 1) #[(.slice xA0 xn0 xc0), (.slice xA1 xn1 xc1), (.slice xA2 xn2 xc2), (.slice xA3 xn3 xc3), (.slice xA4 xn4 xc4), (.slice xA5 xn5 xc5)] 64 := px.below b4 (by first | omega | (simp [size_drew]; done) | (simp [size_drew]; omega))
          clear px; have px := px_; clear px_
          obtain ⟨cpk_0, cpk_1, fpk_0, fpk_1⟩ := pk.two
          have l_pk_0 : w.heap.size < w4.heap.size := by omega
          obtain ⟨cpa_0, cpa_1, fpa_0, fpa_1⟩ := pa.two
          have l_pa_0 : w.heap.size + 1 < w4.heap.size := by omega
          obtain ⟨cpb_0, cpb_1, fpb_0, fpb_1⟩ := pb.two
          have l_pb_0 : w.heap.size + 1 + 1 < w4.heap.size := by omega
          obtain ⟨cpx_0, cpx_1, cpx_2, cpx_3, cpx_4, cpx_5, fpx_0, fpx_1, fpx_2, fpx_3, fpx_4, fpx_5⟩ := px.six
          have l_px_0 : w.heap.size + 1 + 1 + 1 < w4.heap.size := by omega
          go_wp2_with fail
          clear cpk_0 cpk_1 fpk_0 fpk_1 l_pk_0 cpa_0 cpa_1 fpa_0 fpa_1 l_pa_0 cpb_0 cpb_1 fpb_0 fpb_1 l_pb_0 cpx_0 cpx_1 cpx_2 cpx_3 cpx_4 cpx_5 fpx_0 fpx_1 fpx_2 fpx_3 fpx_4 fpx_5 l_px_0
          refine wp_region_M [13] (w4.heap.size) 15 (S := fun W => Below w.heap.size w W ∧ Below w4.heap.size w4 W ∧ W.cell? ⟨w.heap.size, 0, none⟩ = some (.int .i64 kI0) ∧ W.cell? ⟨w.heap.size, 1, none⟩ = some ((.slice kA1 kn1 kc1)) ∧ W.cell? ⟨w.heap.size + 1, 0, none⟩ = some ((.slice aA0 an0 ac0)) ∧ W.cell? ⟨w.heap.size + 1, 1, none⟩ = some ((.slice aA1 an1 ac1)) ∧ W.cell? ⟨w.heap.size + 1 + 1, 0, none⟩ = some ((.slice bA0 bn0 bc0)) ∧ W.cell? ⟨w.heap.size + 1 + 1, 1, none⟩ = some ((.slice bA1 bn1 bc1)) ∧ W.cell? ⟨w.heap.size + 1 + 1 + 1, 0, none⟩ = some ((.slice xA0 xn0 xc0)) ∧ W.cell? ⟨w.heap.size + 1 + 1 + 1, 1, none⟩ = some ((.slice xA1 xn1 xc1)) ∧ W.cell? ⟨w.heap.size + 1 + 1 + 1, 2, none⟩ = some ((.slice xA2 xn2 xc2)) ∧ W.cell? ⟨w.heap.size + 1 + 1 + 1, 3, none⟩ = some ((.slice xA3 xn3 xc3)) ∧ W.cell? ⟨w.heap.size + 1 + 1 + 1, 4, none⟩ = some ((.slice xA4 xn4 xc4)) ∧ W.cell? ⟨w.heap.size + 1 + 1 + 1, 5, none⟩ = some ((.slice xA5 xn5 xc5))) (by kernel_rfl) (by rfl) (fun W hW => ⟨Below.trans (b := _) (by repeat (with_reducible (first | assumption | exact Below.refl _ _ | refine Below.alloc ?_ (by first | omega | (simp; done) | (simp; omega)) _ | refine Below.setCell ?_ (by first | omega | (simp; done) | (simp; omega)) _ | refine Below.drew ?_ | refine below_drewN ?_ _))) (Below.mono hW (by first | omega | (simp [size_drew]; done) | (simp [size_drew]; omega))), Below.trans (b := _) (by repeat (with_reducible (first | assumption | exact Below.refl _ _ | refine Below.alloc ?_ (by first | omega | (simp; done) | (simp; omega)) _ | refine Below.setCell ?_ (by first | omega | (simp; done) | (simp; omega)) _ | refine Below.drew ?_ | refine below_drewN ?_ _))) (Below.mono hW (by first | omega | (simp [size_drew]; done) | (simp [size_drew]; omega))), (Box.below pk.drew hW (by first | omega | (simp [size_drew]; done) | (simp [size_drew]; omega))).two.1, (Box.below pk.drew hW (by first | omega | (simp [size_drew]; done) | (simp [size_drew]; omega))).two.2.1, (Box.below pa.drew hW (by first | omega | (simp [size_drew]; done) | (simp [size_drew]; omega))).two.1, (Box.below pa.drew hW (by first | omega | (simp [size_drew]; done) | (simp [size_drew]; omega))).two.2.1, (Box.below pb.drew hW (by first | omega | (simp [size_drew]; done) | (simp [size_drew]; omega))).two.1, (Box.below pb.drew hW (by first | omega | (simp [size_drew]; done) | (simp [size_drew]; omega))).two.2.1, (Box.below px.drew hW (by first | omega | (simp [size_drew]; done) | (simp [size_drew]; omega))).six.1, (Box.below px.drew hW (by first | omega | (simp [size_drew]; done) | (simp [size_drew]; omega))).six.2.1, (Box.below px.drew hW (by first | omega | (simp [size_drew]; done) | (simp [size_drew]; omega))).six.2.2.1, (Box.below px.drew hW (by first | omega | (simp [size_drew]; done) | (simp [size_drew]; omega))).six.2.2.2.1, (Box.below px.drew hW (by first | omega | (simp [size_drew]; done) | (simp [size_drew]; omega))).six.2.2.2.2.1, (Box.below px.drew hW (by first | omega | (simp [size_drew]; done) | (simp [size_drew]; omega))).six.2.2.2.2.2.1⟩) (by first | omega | (simp [size_drew]; done) | (simp [size_drew]; omega)) (fun hS hG => ?_)
          (try dsimp only at hS)
          refine pendM 12 10 #[.int .i64 0, .int .i64 0] 73 (by simp only [List.getElem?_toArray, List.getElem?_cons_succ, List.getElem?_cons_zero] <;> rfl) (by kernel_rfl) (by exact fun _ _ _ _ h => h) (by intro a W; unfold ptr; go_simp; (first | done | rfl)) hG ?_
          (refine tkM 0 hG hS ?_; (try simp only [Act.put, List.setIfInBounds_toArray, List.set_cons_zero, List.set_cons_succ]))
          (refine tkM 2 hG hS ?_; (try simp only [Act.put, List.setIfInBounds_toArray, List.set_cons_zero, List.set_cons_succ]))
          (refine tkM 4 hG hS ?_; (try simp only [Act.put, List.setIfInBounds_toArray, List.set_cons_zero, List.set_cons_succ]))
          (refine tkM 6 hG hS ?_; (try simp only [Act.put, List.setIfInBounds_toArray, List.set_cons_zero, List.set_cons_succ]))
          refine callM hG (i := 1) (by simp only [List.getElem?_toArray, List.getElem?_cons_succ, List.getElem?_cons_zero] <;> rfl) (by kernel_rfl) (by rfl) (by rfl) (by intro W hW; have hSw := hS W hW; (try dsimp only at hSw); go_simp; (first | done | with_reducible rfl | exact ⟨rfl, rfl⟩)) ?_
          intro w5 b5
          have B5 : Below w.heap.size w w5 := (hS w5 b5).1
          have z5 := Below.size b5
          (try simp only [World.size_alloc, World.size_setCell, size_drew] at z5)
          have pk_ : Box w5 (w.heap.size) #[.int .i64 kI0, (.slice kA1 kn1 kc1)] 30 := (Box.b pk.drew b5)
          clear pk; have pk := pk_; clear pk_
          have pa_ : Box w5 (w.heap.size + 1) #[(.slice aA0 an0 ac0), (.slice aA1 an1 ac1)] 44 := (Box.b pa.drew b5)
          clear pa; have pa := pa_; clear pa_
          have pb_ : Box w5 (w.heap.size + 1 + 1) #[(.slice bA0 bn0 bc0), (.slice bA1 bn1 bc1)] 44 := (Box.b pb.drew b5)
          clear pb; have pb := pb_; clear pb_
          have px_ : Box w5 (w.heap.size + 1 + 1 + 1) #[(.slice xA0 xn0 xc0), (.slice xA1 xn1 xc1), (.slice xA2 xn2 xc2), (.slice xA3 xn3 xc3), (.slice xA4 xn4 xc4), (.slice xA5 xn5 xc5)] 64 := (Box.b px.drew b5)
          clear px; have px := px_; clear px_
          clear hS hG
          go_at_call 35
          refine (toKeys_L kI0 (RdL.cons (d := .ints kL1) kL1h.rd.b RdL.nil) kL1n).mono ?_
          rintro e w6 ⟨skA1, skn1, skc1, rfl, rsk, b6⟩
          refine ⟨_, rfl, b6, fun hG => ?_⟩
          have z6 := Below.size b6
          have B6 : Below w.heap.size w w6 := Below.t b6
          have pk_ : Box w6 (w.heap.size) #[.int .i64 kI0, (.slice kA1 kn1 kc1)] 30 := (Box.b pk b6)
          clear pk; have pk := pk_; clear pk_
          have pa_ : Box w6 (w.heap.size + 1) #[(.slice aA0 an0 ac0), (.slice aA1 an1 ac1)] 44 := (Box.b pa b6)
          clear pa; have pa := pa_; clear pa_
          have pb_ : Box w6 (w.heap.size + 1 + 1) #[(.slice bA0 bn0 bc0), (.slice bA1 bn1 bc1)] 44 := (Box.b pb b6)
          clear pb; have pb := pb_; clear pb_
          have px_ : Box w6 (w.heap.size + 1 + 1 + 1) #[(.slice xA0 xn0 xc0), (.slice xA1 xn1 xc1), (.slice xA2 xn2 xc2), (.slice xA3 xn3 xc3), (.slice xA4 xn4 xc4), (.slice xA5 xn5 xc5)] 64 := (Box.b px b6)
          clear px; have px := px_; clear px_
          (try simp only [Act.put, List.setIfInBounds_toArray, List.set_cons_zero, List.set_cons_succ])
          have hS : ∀ W, Later w6 W → (Below w.heap.size w W ∧ Below w6.heap.size w6 W ∧ W.cell? ⟨w.heap.size, 0, none⟩ = some (.int .i64 kI0) ∧ W.cell? ⟨w.heap.size, 1, none⟩ = some ((.slice kA1 kn1 kc1)) ∧ W.cell? ⟨w.heap.size + 1, 0, none⟩ = some ((.slice aA0 an0 ac0)) ∧ W.cell? ⟨w.heap.size + 1, 1, none⟩ = some ((.slice aA1 an1 ac1)) ∧ W.cell? ⟨w.heap.size + 1 + 1, 0, none⟩ = some ((.slice bA0 bn0 bc0)) ∧ W.cell? ⟨w.heap.size + 1 + 1, 1, none⟩ = some ((.slice bA1 bn1 bc1)) ∧ W.cell? ⟨w.heap.size + 1 + 1 + 1, 0, none⟩ = some ((.slice xA0 xn0 xc0)) ∧ W.cell? ⟨w.heap.size + 1 + 1 + 1, 1, none⟩ = some ((.slice xA1 xn1 xc1)) ∧ W.cell? ⟨w.heap.size + 1 + 1 + 1, 2, none⟩ = some ((.slice xA2 xn2 xc2)) ∧ W.cell? ⟨w.heap.size + 1 + 1 + 1, 3, none⟩ = some ((.slice xA3 xn3 xc3)) ∧ W.cell? ⟨w.heap.size + 1 + 1 + 1, 4, none⟩ = some ((.slice xA4 xn4 xc4)) ∧ W.cell? ⟨w.heap.size + 1 + 1 + 1, 5, none⟩ = some ((.slice xA5 xn5 xc5))) := fun W hW => ⟨Below.trans (b := _) (by repeat (with_reducible (first | assumption | exact Below.refl _ _ | refine Below.alloc ?_ (by first | omega | (simp; done) | (simp; omega)) _ | refine Below.setCell ?_ (by first | omega | (simp; done) | (simp; omega)) _ | refine Below.drew ?_ | refine below_drewN ?_ _))) (Below.mono hW (by first | omega | (simp [size_drew]; done) | (simp [size_drew]; omega))), Below.trans (b := _) (by repeat (with_reducible (first | assumption | exact Below.refl _ _ | refine Below.alloc ?_ (by first | omega | (simp; done) | (simp; omega)) _ | refine Below.setCell ?_ (by first | omega | (simp; done) | (simp; omega)) _ | refine Below.drew ?_ | refine below_drewN ?_ _))) (Below.mono hW (by first | omega | (simp [size_drew]; done) | (simp [size_drew]; omega))), (Box.below pk hW (by first | omega | (simp [size_drew]; done) | (simp [size_drew]; omega))).two.1, (Box.below pk hW (by first | omega | (simp [size_drew]; done) | (simp [size_drew]; omega))).two.2.1, (Box.below pa hW (by first | omega | (simp [size_drew]; done) | (simp [size_drew]; omega))).two.1, (Box.below pa hW (by first | omega | (simp [size_drew]; done) | (simp [size_drew]; omega))).two.2.1, (Box.below pb hW (by first | omega | (simp [size_drew]; done) | (simp [size_drew]; omega))).two.1, (Box.below pb hW (by first | omega | (simp [size_drew]; done) | (simp [size_drew]; omega))).two.2.1, (Box.below px hW (by first | omega | (simp [size_drew]; done) | (simp [size_drew]; omega))).six.1, (Box.below px hW (by first | omega | (simp [size_drew]; done) | (simp [size_drew]; omega))).six.2.1, (Box.below px hW (by first | omega | (simp [size_drew]; done) | (simp [size_drew]; omega))).six.2.2.1, (Box.below px hW (by first | omega | (simp [size_drew]; done) | (simp [size_drew]; omega))).six.2.2.2.1, (Box.below px hW (by first | omega | (simp [size_drew]; done) | (simp [size_drew]; omega))).six.2.2.2.2.1, (Box.below px hW (by first | omega | (simp [size_drew]; done) | (simp [size_drew]; omega))).six.2.2.2.2.2.1⟩
          refine callM hG (i := 3) (by simp only [List.getElem?_toArray, List.getElem?_cons_succ, List.getElem?_cons_zero] <;> rfl) (by kernel_rfl) (by rfl) (by rfl) (by intro W hW; have hSw := hS W hW; (try dsimp only at hSw); go_simp; (first | done | with_reducible rfl | exact ⟨rfl, rfl⟩)) ?_
          intro w7 b7
          have B7 : Below w.heap.size w w7 := (hS w7 b7).1
          have z7 := Below.size b7
          (try simp only [World.size_alloc, World.size_setCell, size_drew] at z7)
          have rsk_ := (rsk.below b7)
          clear rsk; have rsk := rsk_; clear rsk_
          have pk_ : Box w7 (w.heap.size) #[.int .i64 kI0, (.slice kA1 kn1 kc1)] 30 := (Box.b pk b7)
          clear pk; have pk := pk_; clear pk_
          have pa_ : Box w7 (w.heap.size + 1) #[(.slice aA0 an0 ac0), (.slice aA1 an1 ac1)] 44 := (Box.b pa b7)
          clear pa; have pa := pa_; clear pa_
          have pb_ : Box w7 (w.heap.size + 1 + 1) #[(.slice bA0 bn0 bc0), (.slice bA1 bn1 bc1)] 44 := (Box.b pb b7)
          clear pb; have pb := pb_; clear pb_
          have px_ : Box w7 (w.heap.size + 1 + 1 + 1) #[(.slice xA0 xn0 xc0), (.slice xA1 xn1 xc1), (.slice xA2 xn2 xc2), (.slice xA3 xn3 xc3), (.slice xA4 xn4 xc4), (.slice xA5 xn5 xc5)] 64 := (Box.b px b7)
          clear px; have px := px_; clear px_
          clear hS hG
          go_at_call 42
          refine (toAuth_L (RdL.cons (d := .ints aL0) aL0h.rd.b (RdL.cons (d := .ints aL1) aL1h.rd.b RdL.nil)) aL0n aL1n).mono ?_
          rintro e w8 ⟨saA0, san0, sac0, saA1, san1, sac1, rfl, rsa, b8⟩
          refine ⟨_, rfl, b8, fun hG => ?_⟩
          have z8 := Below.size b8
          have B8 : Below w.heap.size w w8 := Below.t b8
          have rsk_ := (rsk.below b8)
          clear rsk; have rsk := rsk_; clear rsk_
          have pk_ : Box w8 (w.heap.size) #[.int .i64 kI0, (.slice kA1 kn1 kc1)] 30 := (Box.b pk b8)
          clear pk; have pk := pk_; clear pk_
          have pa_ : Box w8 (w.heap.size + 1) #[(.slice aA0 an0 ac0), (.slice aA1 an1 ac1)] 44 := (Box.b pa b8)
          clear pa; have pa := pa_; clear pa_
          have pb_ : Box w8 (w.heap.size + 1 + 1) #[(.slice bA0 bn0 bc0), (.slice bA1 bn1 bc1)] 44 := (Box.b pb b8)
          clear pb; have pb := pb_; clear pb_
          have px_ : Box w8 (w.heap.size + 1 + 1 + 1) #[(.slice xA0 xn0 xc0), (.slice xA1 xn1 xc1), (.slice xA2 xn2 xc2), (.slice xA3 xn3 xc3), (.slice xA4 xn4 xc4), (.slice xA5 xn5 xc5)] 64 := (Box.b px b8)
          clear px; have px := px_; clear px_
          (try simp only [Act.put, List.setIfInBounds_toArray, List.set_cons_zero, List.set_cons_succ])
          have hS : ∀ W, Later w8 W → (Below w.heap.size w W ∧ Below w8.heap.size w8 W ∧ W.cell? ⟨w.heap.size, 0, none⟩ = some (.int .i64 kI0) ∧ W.cell? ⟨w.heap.size, 1, none⟩ = some ((.slice kA1 kn1 kc1)) ∧ W.cell? ⟨w.heap.size + 1, 0, none⟩ = some ((.slice aA0 an0 ac0)) ∧ W.cell? ⟨w.heap.size + 1, 1, none⟩ = some ((.slice aA1 an1 ac1)) ∧ W.cell? ⟨w.heap.size + 1 + 1, 0, none⟩ = some ((.slice bA0 bn0 bc0)) ∧ W.cell? ⟨w.heap.size + 1 + 1, 1, none⟩ = some ((.slice bA1 bn1 bc1)) ∧ W.cell? ⟨w.heap.size + 1 + 1 + 1, 0, none⟩ = some ((.slice xA0 xn0 xc0)) ∧ W.cell? ⟨w.heap.size + 1 + 1 + 1, 1, none⟩ = some ((.slice xA1 xn1 xc1)) ∧ W.cell? ⟨w.heap.size + 1 + 1 + 1, 2, none⟩ = some ((.slice xA2 xn2 xc2)) ∧ W.cell? ⟨w.heap.size + 1 + 1 + 1, 3, none⟩ = some ((.slice xA3 xn3 xc3)) ∧ W.cell? ⟨w.heap.size + 1 + 1 + 1, 4, none⟩ = some ((.slice xA4 xn4 xc4)) ∧ W.cell? ⟨w.heap.size + 1 + 1 + 1, 5, none⟩ = some ((.slice xA5 xn5 xc5))) := fun W hW => ⟨Below.trans (b := _) (by repeat (with_reducible (first | assumption | exact Below.refl _ _ | refine Below.alloc ?_ (by first | omega | (simp; done) | (simp; omega)) _ | refine Below.setCell ?_ (by first | omega | (simp; done) | (simp; omega)) _ | refine Below.drew ?_ | refine below_drewN ?_ _))) (Below.mono hW (by first | omega | (simp [size_drew]; done) | (simp [size_drew]; omega))), Below.trans (b := _) (by repeat (with_reducible (first | assumption | exact Below.refl _ _ | refine Below.alloc ?_ (by first | omega | (simp; done) | (simp; omega)) _ | refine Below.setCell ?_ (by first | omega | (simp; done) | (simp; omega)) _ | refine Below.drew ?_ | refine below_drewN ?_ _))) (Below.mono hW (by first | omega | (simp [size_drew]; done) | (simp [size_drew]; omega))), (Box.below pk hW (by first | omega | (simp [size_drew]; done) | (simp [size_drew]; omega))).two.1, (Box.below pk hW (by first | omega | (simp [size_drew]; done) | (simp [size_drew]; omega))).two.2.1, (Box.below pa hW (by first | omega | (simp [size_drew]; done) | (simp [size_drew]; omega))).two.1, (Box.below pa hW (by first | omega | (simp [size_drew]; done) | (simp [size_drew]; omega))).two.2.1, (Box.below pb hW (by first | omega | (simp [size_drew]; done) | (simp [size_drew]; omega))).two.1, (Box.below pb hW (by first | omega | (simp [size_drew]; done) | (simp [size_drew]; omega))).two.2.1, (Box.below px hW (by first | omega | (simp [size_drew]; done) | (simp [size_drew]; omega))).six.1, (Box.below px hW (by first | omega | (simp [size_drew]; done) | (simp [size_drew]; omega))).six.2.1, (Box.below px hW (by first | omega | (simp [size_drew]; done) | (simp [size_drew]; omega))).six.2.2.1, (Box.below px hW (by first | omega | (simp [size_drew]; done) | (simp [size_drew]; omega))).six.2.2.2.1, (Box.below px hW (by first | omega | (simp [size_drew]; done) | (simp [size_drew]; omega))).six.2.2.2.2.1, (Box.below px hW (by first | omega | (simp [size_drew]; done) | (simp [size_drew]; omega))).six.2.2.2.2.2.1⟩
          refine callM hG (i := 5) (by simp only [List.getElem?_toArray, List.getElem?_cons_succ, List.getElem?_cons_zero] <;> rfl) (by kernel_rfl) (by rfl) (by rfl) (by intro W hW; have hSw := hS W hW; (try dsimp only at hSw); go_simp; (first | done | with_reducible rfl | exact ⟨rfl, rfl⟩)) ?_
          intro w9 b9
          have B9 : Below w.heap.size w w9 := (hS w9 b9).1
          have z9 := Below.size b9
          (try simp only [World.size_alloc, World.size_setCell, size_drew] at z9)
          have rsk_ := (rsk.below b9)
          clear rsk; have rsk := rsk_; clear rsk_
          have rsa_ := (rsa.below b9)
          clear rsa; have rsa := rsa_; clear rsa_
          have pk_ : Box w9 (w.heap.size) #[.int .i64 kI0, (.slice kA1 kn1 kc1)] 30 := (Box.b pk b9)
          clear pk; have pk := pk_; clear pk_
          have pa_ : Box w9 (w.heap.size + 1) #[(.slice aA0 an0 ac0), (.slice aA1 an1 ac1)] 44 := (Box.b pa b9)
          clear pa; have pa := pa_; clear pa_
          have pb_ : Box w9 (w.heap.size + 1 + 1) #[(.slice bA0 bn0 bc0), (.slice bA1 bn1 bc1)] 44 := (Box.b pb b9)
          clear pb; have pb := pb_; clear pb_
          have px_ : Box w9 (w.heap.size + 1 + 1 + 1) #[(.slice xA0 xn0 xc0), (.slice xA1 xn1 xc1), (.slice xA2 xn2 xc2), (.slice xA3 xn3 xc3), (.slice xA4 xn4 xc4), (.slice xA5 xn5 xc5)] 64 := (Box.b px b9)
          clear px; have px := px_; clear px_
          clear hS hG
          go_at_call 42
          refine (toAuth_L (RdL.cons (d := .ints bL0) bL0h.rd.b (RdL.cons (d := .ints bL1) bL1h.rd.b RdL.nil)) bL0n bL1n).mono ?_
          rintro e w10 ⟨sbA0, sbn0, sbc0, sbA1, sbn1, sbc1, rfl, rsb, b10⟩
          refine ⟨_, rfl, b10, fun hG => ?_⟩
          have z10 := Below.size b10
          have B10 : Below w.heap.size w w10 := Below.t b10
          have rsk_ := (rsk.below b10)
          clear rsk; have rsk := rsk_; clear rsk_
          have rsa_ := (rsa.below b10)
          clear rsa; have rsa := rsa_; clear rsa_
          have pk_ : Box w10 (w.heap.size) #[.int .i64 kI0, (.slice kA1 kn1 kc1)] 30 := (Box.b pk b10)
          clear pk; have pk := pk_; clear pk_
          have pa_ : Box w10 (w.heap.size + 1) #[(.slice aA0 an0 ac0), (.slice aA1 an1 ac1)] 44 := (Box.b pa b10)
          clear pa; have pa := pa_; clear pa_
          have pb_ : Box w10 (w.heap.size + 1 + 1) #[(.slice bA0 bn0 bc0), (.slice bA1 bn1 bc1)] 44 := (Box.b pb b10)
          clear pb; have pb := pb_; clear pb_
          have px_ : Box w10 (w.heap.size + 1 + 1 + 1) #[(.slice xA0 xn0 xc0), (.slice xA1 xn1 xc1), (.slice xA2 xn2 xc2), (.slice xA3 xn3 xc3), (.slice xA4 xn4 xc4), (.slice xA5 xn5 xc5)] 64 := (Box.b px b10)
          clear px; have px := px_; clear px_
          (try simp only [Act.put, List.setIfInBounds_toArray, List.set_cons_zero, List.set_cons_succ])
          have hS : ∀ W, Later w10 W → (Below w.heap.size w W ∧ Below w10.heap.size w10 W ∧ W.cell? ⟨w.heap.size, 0, none⟩ = some (.int .i64 kI0) ∧ W.cell? ⟨w.heap.size, 1, none⟩ = some ((.slice kA1 kn1 kc1)) ∧ W.cell? ⟨w.heap.size + 1, 0, none⟩ = some ((.slice aA0 an0 ac0)) ∧ W.cell? ⟨w.heap.size + 1, 1, none⟩ = some ((.slice aA1 an1 ac1)) ∧ W.cell? ⟨w.heap.size + 1 + 1, 0, none⟩ = some ((.slice bA0 bn0 bc0)) ∧ W.cell? ⟨w.heap.size + 1 + 1, 1, none⟩ = some ((.slice bA1 bn1 bc1)) ∧ W.cell? ⟨w.heap.size + 1 + 1 + 1, 0, none⟩ = some ((.slice xA0 xn0 xc0)) ∧ W.cell? ⟨w.heap.size + 1 + 1 + 1, 1, none⟩ = some ((.slice xA1 xn1 xc1)) ∧ W.cell? ⟨w.heap.size + 1 + 1 + 1, 2, none⟩ = some ((.slice xA2 xn2 xc2)) ∧ W.cell? ⟨w.heap.size + 1 + 1 + 1, 3, none⟩ = some ((.slice xA3 xn3 xc3)) ∧ W.cell? ⟨w.heap.size + 1 + 1 + 1, 4, none⟩ = some ((.slice xA4 xn4 xc4)) ∧ W.cell? ⟨w.heap.size + 1 + 1 + 1, 5, none⟩ = some ((.slice xA5 xn5 xc5))) := fun W hW => ⟨Below.trans (b := _) (by repeat (with_reducible (first | assumption | exact Below.refl _ _ | refine Below.alloc ?_ (by first | omega | (simp; done) | (simp; omega)) _ | refine Below.setCell ?_ (by first | omega | (simp; done) | (simp; omega)) _ | refine Below.drew ?_ | refine below_drewN ?_ _))) (Below.mono hW (by first | omega | (simp [size_drew]; done) | (simp [size_drew]; omega))), Below.trans (b := _) (by repeat (with_reducible (first | assumption | exact Below.refl _ _ | refine Below.alloc ?_ (by first | omega | (simp; done) | (simp; omega)) _ | refine Below.setCell ?_ (by first | omega | (simp; done) | (simp; omega)) _ | refine Below.drew ?_ | refine below_drewN ?_ _))) (Below.mono hW (by first | omega | (simp [size_drew]; done) | (simp [size_drew]; omega))), (Box.below pk hW (by first | omega | (simp [size_drew]; done) | (simp [size_drew]; omega))).two.1, (Box.below pk hW (by first | omega | (simp [size_drew]; done) | (simp [size_drew]; omega))).two.2.1, (Box.below pa hW (by first | omega | (simp [size_drew]; done) | (simp [size_drew]; omega))).two.1, (Box.below pa hW (by first | omega | (simp [size_drew]; done) | (simp [size_drew]; omega))).two.2.1, (Box.below pb hW (by first | omega | (simp [size_drew]; done) | (simp [size_drew]; omega))).two.1, (Box.below pb hW (by first | omega | (simp [size_drew]; done) | (simp [size_drew]; omega))).two.2.1, (Box.below px hW (by first | omega | (simp [size_drew]; done) | (simp [size_drew]; omega))).six.1, (Box.below px hW (by first | omega | (simp [size_drew]; done) | (simp [size_drew]; omega))).six.2.1, (Box.below px hW (by first | omega | (simp [size_drew]; done) | (simp [size_drew]; omega))).six.2.2.1, (Box.below px hW (by first | omega | (simp [size_drew]; done) | (simp [size_drew]; omega))).six.2.2.2.1, (Box.below px hW (by first | omega | (simp [size_drew]; done) | (simp [size_drew]; omega))).six.2.2.2.2.1, (Box.below px hW (by first | omega | (simp [size_drew]; done) | (simp [size_drew]; omega))).six.2.2.2.2.2.1⟩
          refine callM hG (i := 7) (by simp only [List.getElem?_toArray, List.getElem?_cons_succ, List.getElem?_cons_zero] <;> rfl) (by kernel_rfl) (by rfl) (by rfl) (by intro W hW; have hSw := hS W hW; (try dsimp only at hSw); go_simp; (first | done | with_reducible rfl | exact ⟨rfl, rfl⟩)) ?_
          intro w11 b11
          have B11 : Below w.heap.size w w11 := (hS w11 b11).1
          have z11 := Below.size b11
          (try simp only [World.size_alloc, World.size_setCell, size_drew] at z11)
          have rsk_ := (rsk.below b11)
          clear rsk; have rsk := rsk_; clear rsk_
          have rsa_ := (rsa.below b11)
          clear rsa; have rsa := rsa_; clear rsa_
          have rsb_ := (rsb.below b11)
          clear rsb; have rsb := rsb_; clear rsb_
          have pk_ : Box w11 (w.heap.size) #[.int .i64 kI0, (.slice kA1 kn1 kc1)] 30 := (Box.b pk b11)
          clear pk; have pk := pk_; clear pk_
          have pa_ : Box w11 (w.heap.size + 1) #[(.slice aA0 an0 ac0), (.slice aA1 an1 ac1)] 44 := (Box.b pa b11)
          clear pa; have pa := pa_; clear pa_
          have pb_ : Box w11 (w.heap.size + 1 + 1) #[(.slice bA0 bn0 bc0), (.slice bA1 bn1 bc1)] 44 := (Box.b pb b11)
          clear pb; have pb := pb_; clear pb_
          have px_ : Box w11 (w.heap.size + 1 + 1 + 1) #[(.slice xA0 xn0 xc0), (.slice xA1 xn1 xc1), (.slice xA2 xn2 xc2), (.slice xA3 xn3 xc3), (.slice xA4 xn4 xc4), (.slice xA5 xn5 xc5)] 64 := (Box.b px b11)
          clear px; have px := px_; clear px_
          clear hS hG
          go_at_call 60
          refine (toTriple_L (RdL.cons (d := .ints xL0) xL0h.rd.b (RdL.cons (d := .ints xL1) xL1h.rd.b (RdL.cons (d := .ints xL2) xL2h.rd.b (RdL.cons (d := .ints xL3) xL3h.rd.b (RdL.cons (d := .ints xL4) xL4h.rd.b (RdL.cons (d := .ints xL5) xL5h.rd.b RdL.nil)))))) xL0n xL1n xL2n xL3n xL4n xL5n).mono ?_
          rintro e w12 ⟨sxA0, sxn0, sxc0, sxA1, sxn1, sxc1, sxA2, sxn2, sxc2, sxA3, sxn3, sxc3, sxA4, sxn4, sxc4, sxA5, sxn5, sxc5, rfl, rsx, b12⟩
          refine ⟨_, rfl, b12, fun hG => ?_⟩
          have z12 := Below.size b12
          have B12 : Below w.heap.size w w12 := Below.t b12
          have rsk_ := (rsk.below b12)
          clear rsk; have rsk := rsk_; clear rsk_
          have rsa_ := (rsa.below b12)
          clear rsa; have rsa := rsa_; clear rsa_
          have rsb_ := (rsb.below b12)
          clear rsb; have rsb := rsb_; clear rsb_
          have pk_ : Box w12 (w.heap.size) #[.int .i64 kI0, (.slice kA1 kn1 kc1)] 30 := (Box.b pk b12)
          clear pk; have pk := pk_; clear pk_
          have pa_ : Box w12 (w.heap.size + 1) #[(.slice aA0 an0 ac0), (.slice aA1 an1 ac1)] 44 := (Box.b pa b12)
          clear pa; have pa := pa_; clear pa_
          have pb_ : Box w12 (w.heap.size + 1 + 1) #[(.slice bA0 bn0 bc0), (.slice bA1 bn1 bc1)] 44 := (Box.b pb b12)
          clear pb; have pb := pb_; clear pb_
          have px_ : Box w12 (w.heap.size + 1 + 1 + 1) #[(.slice xA0 xn0 xc0), (.slice xA1 xn1 xc1), (.slice xA2 xn2 xc2), (.slice xA3 xn3 xc3), (.slice xA4 xn4 xc4), (.slice xA5 xn5 xc5)] 64 := (Box.b px b12)
          clear px; have px := px_; clear px_
          (try simp only [Act.put, List.setIfInBounds_toArray, List.set_cons_zero, List.set_cons_succ])
          have hS : ∀ W, Later w12 W → (Below w.heap.size w W ∧ Below w12.heap.size w12 W ∧ W.cell? ⟨w.heap.size, 0, none⟩ = some (.int .i64 kI0) ∧ W.cell? ⟨w.heap.size, 1, none⟩ = some ((.slice kA1 kn1 kc1)) ∧ W.cell? ⟨w.heap.size + 1, 0, none⟩ = some ((.slice aA0 an0 ac0)) ∧ W.cell? ⟨w.heap.size + 1, 1, none⟩ = some ((.slice aA1 an1 ac1)) ∧ W.cell? ⟨w.heap.size + 1 + 1, 0, none⟩ = some ((.slice bA0 bn0 bc0)) ∧ W.cell? ⟨w.heap.size + 1 + 1, 1, none⟩ = some ((.slice bA1 bn1 bc1)) ∧ W.cell? ⟨w.heap.size + 1 + 1 + 1, 0, none⟩ = some ((.slice xA0 xn0 xc0)) ∧ W.cell? ⟨w.heap.size + 1 + 1 + 1, 1, none⟩ = some ((.slice xA1 xn1 xc1)) ∧ W.cell? ⟨w.heap.size + 1 + 1 + 1, 2, none⟩ = some ((.slice xA2 xn2 xc2)) ∧ W.cell? ⟨w.heap.size + 1 + 1 + 1, 3, none⟩ = some ((.slice xA3 xn3 xc3)) ∧ W.cell? ⟨w.heap.size + 1 + 1 + 1, 4, none⟩ = some ((.slice xA4 xn4 xc4)) ∧ W.cell? ⟨w.heap.size + 1 + 1 + 1, 5, none⟩ = some ((.slice xA5 xn5 xc5))) := fun W hW => ⟨Below.trans (b := _) (by repeat (with_reducible (first | assumption | exact Below.refl _ _ | refine Below.alloc ?_ (by first | omega | (simp; done) | (simp; omega)) _ | refine Below.setCell ?_ (by first | omega | (simp; done) | (simp; omega)) _ | refine Below.drew ?_ | refine below_drewN ?_ _))) (Below.mono hW (by first | omega | (simp [size_drew]; done) | (simp [size_drew]; omega))), Below.trans (b := _) (by repeat (with_reducible (first | assumption | exact Below.refl _ _ | refine Below.alloc ?_ (by first | omega | (simp; done) | (simp; omega)) _ | refine Below.setCell ?_ (by first | omega | (simp; done) | (simp; omega)) _ | refine Below.drew ?_ | refine below_drewN ?_ _))) (Below.mono hW (by first | omega | (simp [size_drew]; done) | (simp [size_drew]; omega))), (Box.below pk hW (by first | omega | (simp [size_drew]; done) | (simp [size_drew]; omega))).two.1, (Box.below pk hW (by first | omega | (simp [size_drew]; done) | (simp [size_drew]; omega))).two.2.1, (Box.below pa hW (by first | omega | (simp [size_drew]; done) | (simp [size_drew]; omega))).two.1, (Box.below pa hW (by first | omega | (simp [size_drew]; done) | (simp [size_drew]; omega))).two.2.1, (Box.below pb hW (by first | omega | (simp [size_drew]; done) | (simp [size_drew]; omega))).two.1, (Box.below pb hW (by first | omega | (simp [size_drew]; done) | (simp [size_drew]; omega))).two.2.1, (Box.below px hW (by first | omega | (simp [size_drew]; done) | (simp [size_drew]; omega))).six.1, (Box.below px hW (by first | omega | (simp [size_drew]; done) | (simp [size_drew]; omega))).six.2.1, (Box.below px hW (by first | omega | (simp [size_drew]; done) | (simp [size_drew]; omega))).six.2.2.1, (Box.below px hW (by first | omega | (simp [size_drew]; done) | (simp [size_drew]; omega))).six.2.2.2.1, (Box.below px hW (by first | omega | (simp [size_drew]; done) | (simp [size_drew]; omega))).six.2.2.2.2.1, (Box.below px hW (by first | omega | (simp [size_drew]; done) | (simp [size_drew]; omega))).six.2.2.2.2.2.1⟩
          refine callM hG (i := 8) (by simp only [List.getElem?_toArray, List.getElem?_cons_succ, List.getElem?_cons_zero] <;> rfl) (by kernel_rfl) (by rfl) (by rfl) (by intro W hW; have hSw := hS W hW; (try dsimp only at hSw); go_simp; (first | done | with_reducible rfl | exact ⟨rfl, rfl⟩)) ?_
          intro w13 b13
          have B13 : Below w.heap.size w w13 := (hS w13 b13).1
          have z13 := Below.size b13
          (try simp only [World.size_alloc, World.size_setCell, size_drew] at z13)
          have rsk_ := (rsk.below b13)
          clear rsk; have rsk := rsk_; clear rsk_
          have rsa_ := (rsa.below b13)
          clear rsa; have rsa := rsa_; clear rsa_
          have rsb_ := (rsb.below b13)
          clear rsb; have rsb := rsb_; clear rsb_
          have rsx_ := (rsx.below b13)
          clear rsx; have rsx := rsx_; clear rsx_
          have pk_ : Box w13 (w.heap.size) #[.int .i64 kI0, (.slice kA1 kn1 kc1)] 30 := (Box.b pk b13)
          clear pk; have pk := pk_; clear pk_
          have pa_ : Box w13 (w.heap.size + 1) #[(.slice aA0 an0 ac0), (.slice aA1 an1 ac1)] 44 := (Box.b pa b13)
          clear pa; have pa := pa_; clear pa_
          have pb_ : Box w13 (w.heap.size + 1 + 1) #[(.slice bA0 bn0 bc0), (.slice bA1 bn1 bc1)] 44 := (Box.b pb b13)
          clear pb; have pb := pb_; clear pb_
          have px_ : Box w13 (w.heap.size + 1 + 1 + 1) #[(.slice xA0 xn0 xc0), (.slice xA1 xn1 xc1), (.slice xA2 xn2 xc2), (.slice xA3 xn3 xc3), (.slice xA4 xn4 xc4), (.slice xA5 xn5 xc5)] 64 := (Box.b px b13)
          clear px; have px := px_; clear px_
          clear hS hG
          go_at_call 63
          refine (sTripleOpen_L kI0 rsk.rd kL1n rsa.rd aL0n aL1n rsb.rd bL0n bL1n rsx.rd xL0n xL1n xL2n xL3n xL4n xL5n).mono ?_
          rintro e w14 ⟨rfl, b14⟩
          refine ⟨_, rfl, b14, fun hG => ?_⟩
          have z14 := Below.size b14
          have B14 : Below w.heap.size w w14 := Below.t b14
          have rsk_ := (rsk.below b14)
          clear rsk; have rsk := rsk_; clear rsk_
          have rsa_ := (rsa.below b14)
          clear rsa; have rsa := rsa_; clear rsa_
          have rsb_ := (rsb.below b14)
          clear rsb; have rsb := rsb_; clear rsb_
          have rsx_ := (rsx.below b14)
          clear rsx; have rsx := rsx_; clear rsx_
          have pk_ : Box w14 (w.heap.size) #[.int .i64 kI0, (.slice kA1 kn1 kc1)] 30 := (Box.b pk b14)
          clear pk; have pk := pk_; clear pk_
          have pa_ : Box w14 (w.heap.size + 1) #[(.slice aA0 an0 ac0), (.slice aA1 an1 ac1)] 44 := (Box.b pa b14)
          clear pa; have pa := pa_; clear pa_
          have pb_ : Box w14 (w.heap.size + 1 + 1) #[(.slice bA0 bn0 bc0), (.slice bA1 bn1 bc1)] 44 := (Box.b pb b14)
          clear pb; have pb := pb_; clear pb_
          have px_ : Box w14 (w.heap.size + 1 + 1 + 1) #[(.slice xA0 xn0 xc0), (.slice xA1 xn1 xc1), (.slice xA2 xn2 xc2), (.slice xA3 xn3 xc3), (.slice xA4 xn4 xc4), (.slice xA5 xn5 xc5)] 64 := (Box.b px b14)
          clear px; have px := px_; clear px_
          (try simp only [Act.put, List.setIfInBounds_toArray, List.set_cons_zero, List.set_cons_succ])
          have hS : ∀ W, Later w14 W → (Below w.heap.size w W ∧ Below w14.heap.size w14 W ∧ W.cell? ⟨w.heap.size, 0, none⟩ = some (.int .i64 kI0) ∧ W.cell? ⟨w.heap.size, 1, none⟩ = some ((.slice kA1 kn1 kc1)) ∧ W.cell? ⟨w.heap.size + 1, 0, none⟩ = some ((.slice aA0 an0 ac0)) ∧ W.cell? ⟨w.heap.size + 1, 1, none⟩ = some ((.slice aA1 an1 ac1)) ∧ W.cell? ⟨w.heap.size + 1 + 1, 0, none⟩ = some ((.slice bA0 bn0 bc0)) ∧ W.cell? ⟨w.heap.size + 1 + 1, 1, none⟩ = some ((.slice bA1 bn1 bc1)) ∧ W.cell? ⟨w.heap.size + 1 + 1 + 1, 0, none⟩ = some ((.slice xA0 xn0 xc0)) ∧ W.cell? ⟨w.heap.size + 1 + 1 + 1, 1, none⟩ = some ((.slice xA1 xn1 xc1)) ∧ W.cell? ⟨w.heap.size + 1 + 1 + 1, 2, none⟩ = some ((.slice xA2 xn2 xc2)) ∧ W.cell? ⟨w.heap.size + 1 + 1 + 1, 3, none⟩ = some ((.slice xA3 xn3 xc3)) ∧ W.cell? ⟨w.heap.size + 1 + 1 + 1, 4, none⟩ = some ((.slice xA4 xn4 xc4)) ∧ W.cell? ⟨w.heap.size + 1 + 1 + 1, 5, none⟩ = some ((.slice xA5 xn5 xc5))) := fun W hW => ⟨Below.trans (b := _) (by repeat (with_reducible (first | assumption | exact Below.refl _ _ | refine Below.alloc ?_ (by first | omega | (simp; done) | (simp; omega)) _ | refine Below.setCell ?_ (by first | omega | (simp; done) | (simp; omega)) _ | refine Below.drew ?_ | refine below_drewN ?_ _))) (Below.mono hW (by first | omega | (simp [size_drew]; done) | (simp [size_drew]; omega))), Below.trans (b := _) (by repeat (with_reducible (first | assumption | exact Below.refl _ _ | refine Below.alloc ?_ (by first | omega | (simp; done) | (simp; omega)) _ | refine Below.setCell ?_ (by first | omega | (simp; done) | (simp; omega)) _ | refine Below.drew ?_ | refine below_drewN ?_ _))) (Below.mono hW (by first | omega | (simp [size_drew]; done) | (simp [size_drew]; omega))), (Box.below pk hW (by first | omega | (simp [size_drew]; done) | (simp [size_drew]; omega))).two.1, (Box.below pk hW (by first | omega | (simp [size_drew]; done) | (simp [size_drew]; omega))).two.2.1, (Box.below pa hW (by first | omega | (simp [size_drew]; done) | (simp [size_drew]; omega))).two.1, (Box.below pa hW (by first | omega | (simp [size_drew]; done) | (simp [size_drew]; omega))).two.2.1, (Box.below pb hW (by first | omega | (simp [size_drew]; done) | (simp [size_drew]; omega))).two.1, (Box.below pb hW (by first | omega | (simp [size_drew]; done) | (simp [size_drew]; omega))).two.2.1, (Box.below px hW (by first | omega | (simp [size_drew]; done) | (simp [size_drew]; omega))).six.1, (Box.below px hW (by first | omega | (simp [size_drew]; done) | (simp [size_drew]; omega))).six.2.1, (Box.below px hW (by first | omega | (simp [size_drew]; done) | (simp [size_drew]; omega))).six.2.2.1, (Box.below px hW (by first | omega | (simp [size_drew]; done) | (simp [size_drew]; omega))).six.2.2.2.1, (Box.below px hW (by first | omega | (simp [size_drew]; done) | (simp [size_drew]; omega))).six.2.2.2.2.1, (Box.below px hW (by first | omega | (simp [size_drew]; done) | (simp [size_drew]; omega))).six.2.2.2.2.2.1⟩
          (refine tkM 9 hG hS ?_; (try simp only [Act.put, List.setIfInBounds_toArray, List.set_cons_zero, List.set_cons_succ]))
          (refine tkM 10 hG hS ?_; (try simp only [Act.put, List.setIfInBounds_toArray, List.set_cons_zero, List.set_cons_succ]))
          (refine tkY 11 hG ?_; (try simp only [Act.put, List.setIfInBounds_toArray, List.set_cons_zero, List.set_cons_succ]))
          refine storeM (z := 13) (by simp only [List.getElem?_toArray, List.getElem?_cons_succ, List.getElem?_cons_zero] <;> rfl) (by kernel_rfl) (by rfl) (by rfl) ?_
          intro w15 b15
          have B15 : Below w.heap.size w w15 := (hS w15 b15).1
          have z15 := Below.size b15
          (try simp only [World.size_alloc, World.size_setCell, size_drew] at z15)
          have rsk_ := (rsk.below b15)
          clear rsk; have rsk := rsk_; clear rsk_
          have rsa_ := (rsa.below b15)
          clear rsa; have rsa := rsa_; clear rsa_
          have rsb_ := (rsb.below b15)
          clear rsb; have rsb := rsb_; clear rsb_
          have rsx_ := (rsx.below b15)
          clear rsx; have rsx := rsx_; clear rsx_
          have pk_ : Box w15 (w.heap.size) #[.int .i64 kI0, (.slice kA1 kn1 kc1)] 30 := (Box.b pk b15)
          clear pk; have pk := pk_; clear pk_
          have pa_ : Box w15 (w.heap.size + 1) #[(.slice aA0 an0 ac0), (.slice aA1 an1 ac1)] 44 := (Box.b pa b15)
          clear pa; have pa := pa_; clear pa_
          have pb_ : Box w15 (w.heap.size + 1 + 1) #[(.slice bA0 bn0 bc0), (.slice bA1 bn1 bc1)] 44 := (Box.b pb b15)
          clear pb; have pb := pb_; clear pb_
          have px_ : Box w15 (w.heap.size + 1 + 1 + 1) #[(.slice xA0 xn0 xc0), (.slice xA1 xn1 xc1), (.slice xA2 xn2 xc2), (.slice xA3 xn3 xc3), (.slice xA4 xn4 xc4), (.slice xA5 xn5 xc5)] 64 := (Box.b px b15)
          clear px; have px := px_; clear px_
          clear hS hG
          refine Zc.cons fun gkw0 kw0 nkw0 => ?_
          have nkw0_0 := nkw0 (w13.heap.size, w14.heap.size) (by simp)
          dsimp only at nkw0_0 kw0
          have nkw0_1 := nkw0 (w11.heap.size, w12.heap.size) (by simp)
          dsimp only at nkw0_1 kw0
          have nkw0_2 := nkw0 (w9.heap.size, w10.heap.size) (by simp)
          dsimp only at nkw0_2 kw0
          have nkw0_3 := nkw0 (w7.heap.size, w8.heap.size) (by simp)
          dsimp only at nkw0_3 kw0
          have nkw0_4 := nkw0 (w5.heap.size, w6.heap.size) (by simp)
          dsimp only at nkw0_4 kw0
          have nkw0_5 := nkw0 (0, w4.heap.size) (by simp)
          dsimp only at nkw0_5 kw0
          clear nkw0
          refine Zc.nil ?_
          (try unfold ptr)
          (try simp only [Act.put, List.setIfInBounds_toArray, List.set_cons_zero, List.set_cons_succ])
          have lkw0 := kw0.lt
          obtain ⟨ckw0_0, ckw0_1, fkw0_0, fkw0_1⟩ := kw0.two
          refine ⟨_, by go_simp; (first | done | with_reducible rfl | exact ⟨rfl, rfl⟩), ?_⟩
          (try simp only [Act.put, List.setIfInBounds_toArray, List.set_cons_zero, List.set_cons_succ])
          refine onlyAny (i := 14) (by simp only [List.getElem?_toArray, List.getElem?_cons_succ, List.getElem?_cons_zero] <;> rfl) (by kernel_rfl) (by rfl) (by go_simp; (first | done | with_reducible rfl | exact ⟨rfl, rfl⟩)) ?_
          (try simp only [Act.put, List.setIfInBounds_toArray, List.set_cons_zero, List.set_cons_succ])
          refine wpAny_done (by kernel_rfl) ?_ _
          clear ckw0_0 ckw0_1 fkw0_0 fkw0_1
          generalize hw16 : World.setCell _ _ _ = w16
          have z16 : w15.heap.size ≤ w16.heap.size := by rw [← hw16]; simp
          have B16 : Below w.heap.size w w16 := by rw [← hw16]; repeat (with_reducible (first | assumption | exact Below.refl _ _ | refine Below.alloc ?_ (by first | omega | (simp; done) | (simp; omega)) _ | refine Below.setCell ?_ (by first | omega | (simp; done) | (simp; omega)) _ | refine Below.drew ?_ | refine below_drewN ?_ _))
          have hK : ∀ k, k ≠ gkw0 → k < w15.heap.size → w16.heap[k]? = w15.heap[k]? := by
            intro k h0 _; rw [← hw16]
            repeat (first | rfl | refine (Below.heap_setCell _ _ _ _ (by first | exact h0)).trans ?_)
          have rsk_ := rsk.keepBlock z16 (fun k h1 h2 => hK k (by omega) (by have := rsk.2.1; omega))
          clear rsk; have rsk := rsk_; clear rsk_
          have rsa_ := rsa.keepBlock z16 (fun k h1 h2 => hK k (by omega) (by have := rsa.2.1; omega))
          clear rsa; have rsa := rsa_; clear rsa_
          have rsb_ := rsb.keepBlock z16 (fun k h1 h2 => hK k (by omega) (by have := rsb.2.1; omega))
          clear rsb; have rsb := rsb_; clear rsb_
          have rsx_ := rsx.keepBlock z16 (fun k h1 h2 => hK k (by omega) (by have := rsx.2.1; omega))
          clear rsx; have rsx := rsx_; clear rsx_
          have pk_ : Box w16 (w.heap.size) #[.int .i64 kI0, (.slice kA1 kn1 kc1)] 30 := (by rw [← hw16]; exact ((pk.far (by omega)).far (by omega)))
          clear pk; have pk := pk_; clear pk_
          have pa_ : Box w16 (w.heap.size + 1) #[(.slice aA0 an0 ac0), (.slice aA1 an1 ac1)] 44 := (by rw [← hw16]; exact ((pa.far (by omega)).far (by omega)))
          clear pa; have pa := pa_; clear pa_
          have pb_ : Box w16 (w.heap.size + 1 + 1) #[(.slice bA0 bn0 bc0), (.slice bA1 bn1 bc1)] 44 := (by rw [← hw16]; exact ((pb.far (by omega)).far (by omega)))
          clear pb; have pb := pb_; clear pb_
          have px_ : Box w16 (w.heap.size + 1 + 1 + 1) #[(.slice xA0 xn0 xc0), (.slice xA1 xn1 xc1), (.slice xA2 xn2 xc2), (.slice xA3 xn3 xc3), (.slice xA4 xn4 xc4), (.slice xA5 xn5 xc5)] 64 := (by rw [← hw16]; exact ((px.far (by omega)).far (by omega)))
          clear px; have px := px_; clear px_
          have kw0_ : Box w16 (gkw0) #[.int .i64 (toD kI0 kL1 aL0 aL1 bL0 bL1 xL0 xL1 xL2 xL3), .int .i64 (toE kI0 kL1 aL0 aL1 bL0 bL1 xL0 xL1 xL2 xL3)] 73 := (by rw [← hw16]; exact ((kw0.setAt (i := 0) (v := .int .i64 (toD kI0 kL1 aL0 aL1 bL0 bL1 xL0 xL1 xL2 xL3)) (ds := #[.int .i64 (toD kI0 kL1 aL0 aL1 bL0 bL1 xL0 xL1 xL2 xL3), .int .i64 0]) (by simp)).setAt (i := 1) (v := .int .i64 (toE kI0 kL1 aL0 aL1 bL0 bL1 xL0 xL1 xL2 xL3)) (ds := #[.int .i64 (toD kI0 kL1 aL0 aL1 bL0 bL1 xL0 xL1 xL2 xL3), .int .i64 (toE kI0 kL1 aL0 aL1 bL0 bL1 xL0 xL1 xL2 xL3)]) (by simp)))
          clear kw0; have kw0 := kw0_; clear kw0_
          clear hw16 hK
          obtain ⟨cpk_0, cpk_1, fpk_0, fpk_1⟩ := pk.two
          have l_pk_0 : w.heap.size < w16.heap.size := by omega
          go_wp2_with fail
          refine (toKeys_L kI0 (RdL.cons (d := .ints kL1) kL1h.rd.b RdL.nil) kL1n).mono ?_
          rintro e w17 ⟨xkA1, xkn1, xkc1, rfl, rxk, b17⟩
          clear cpk_0 cpk_1 fpk_0 fpk_1 l_pk_0
          have z17 := b17.size
          try simp only [World.size_alloc, World.size_setCell, size_drew] at z17
          have B17 : Below w.heap.size w w17 := Below.t b17
          have pk_ : Box w17 (w.heap.size) #[.int .i64 kI0, (.slice kA1 kn1 kc1)] 30 := pk.below b17 (by first | omega | (simp [size_drew]; done) | (simp [size_drew]; omega))
          clear pk; have pk := pk_; clear pk_
          have pa_ : Box w17 (w.heap.size + 1) #[(.slice aA0 an0 ac0), (.slice aA1 an1 ac1)] 44 := pa.below b17 (by first | omega | (simp [size_drew]; done) | (simp [size_drew]; omega))
          clear pa; have pa := pa_; clear pa_
          have pb_ : Box w17 (w.heap.size + 1 + 1) #[(.slice bA0 bn0 bc0), (.slice bA1 bn1 bc1)] 44 := pb.below b17 (by first | omega | (simp [size_drew]; done) | (simp [size_drew]; omega))
          clear pb; have pb := pb_; clear pb_
          have px_ : Box w17 (w.heap.size + 1 + 1 + 1) #[(.slice xA0 xn0 xc0), (.slice xA1 xn1 xc1), (.slice xA2 xn2 xc2), (.slice xA3 xn3 xc3), (.slice xA4 xn4 xc4), (.slice xA5 xn5 xc5)] 64 := px.below b17 (by first | omega | (simp [size_drew]; done) | (simp [size_drew]; omega))
          clear px; have px := px_; clear px_
          have kw0_ : Box w17 (gkw0) #[.int .i64 (toD kI0 kL1 aL0 aL1 bL0 bL1 xL0 xL1 xL2 xL3), .int .i64 (toE kI0 kL1 aL0 aL1 bL0 bL1 xL0 xL1 xL2 xL3)] 73 := kw0.below b17 (by first | omega | (simp [size_drew]; done) | (simp [size_drew]; omega))
          clear kw0; have kw0 := kw0_; clear kw0_
          try simp only [World.size_alloc, World.size_setCell, size_drew] at rxk
          obtain ⟨cpa_0, cpa_1, fpa_0, fpa_1⟩ := pa.two
          have l_pa_0 : w.heap.size + 1 < w17.heap.size := by omega
          have l_pa_1 : w.heap.size + 1 < w17.heap.size + 1 := by omega
          go_wp2_with fail
          refine (toAuth_L (RdL.cons (d := .ints aL0) aL0h.rd.b (RdL.cons (d := .ints aL1) aL1h.rd.b RdL.nil)) aL0n aL1n).mono ?_
          rintro e w18 ⟨xaA0, xan0, xac0, xaA1, xan1, xac1, rfl, rxa, b18⟩
          clear cpa_0 cpa_1 fpa_0 fpa_1 l_pa_0 l_pa_1
          have z18 := b18.size
          try simp only [World.size_alloc, World.size_setCell, size_drew] at z18
          have B18 : Below w.heap.size w w18 := Below.t b18
          have rxk_ := (rxk.alloc _).below b18
          clear rxk; have rxk := rxk_; clear rxk_
          have pk_ : Box w18 (w.heap.size) #[.int .i64 kI0, (.slice kA1 kn1 kc1)] 30 := (pk.alloc _).below b18 (by first | omega | (simp [size_drew]; done) | (simp [size_drew]; omega))
          clear pk; have pk := pk_; clear pk_
          have pa_ : Box w18 (w.heap.size + 1) #[(.slice aA0 an0 ac0), (.slice aA1 an1 ac1)] 44 := (pa.alloc _).below b18 (by first | omega | (simp [size_drew]; done) | (simp [size_drew]; omega))
          clear pa; have pa := pa_; clear pa_
          have pb_ : Box w18 (w.heap.size + 1 + 1) #[(.slice bA0 bn0 bc0), (.slice bA1 bn1 bc1)] 44 := (pb.alloc _).below b18 (by first | omega | (simp [size_drew]; done) | (simp [size_drew]; omega))
          clear pb; have pb := pb_; clear pb_
          have px_ : Box w18 (w.heap.size + 1 + 1 + 1) #[(.slice xA0 xn0 xc0), (.slice xA1 xn1 xc1), (.slice xA2 xn2 xc2), (.slice xA3 xn3 xc3), (.slice xA4 xn4 xc4), (.slice xA5 xn5 xc5)] 64 := (px.alloc _).below b18 (by first | omega | (simp [size_drew]; done) | (simp [size_drew]; omega))
          clear px; have px := px_; clear px_
          have kw0_ : Box w18 (gkw0) #[.int .i64 (toD kI0 kL1 aL0 aL1 bL0 bL1 xL0 xL1 xL2 xL3), .int .i64 (toE kI0 kL1 aL0 aL1 bL0 bL1 xL0 xL1 xL2 xL3)] 73 := (kw0.alloc _).below b18 (by first | omega | (simp [size_drew]; done) | (simp [size_drew]; omega))
          clear kw0; have kw0 := kw0_; clear kw0_
          have xk_ : Box w18 (w17.heap.size) #[.int .i64 kI0, (.slice xkA1 xkn1 xkc1)] 33 := (Box.new (g := w17.heap.size) _ #[.int .i64 kI0, (.slice xkA1 xkn1 xkc1)] 33 (by simp)).below b18 (by first | omega | (simp [size_drew]; done) | (simp [size_drew]; omega))
          have xk := xk_; clear xk_
          try simp only [World.size_alloc, World.size_setCell, size_drew] at rxa
          obtain ⟨cpb_0, cpb_1, fpb_0, fpb_1⟩ := pb.two
          have l_pb_0 : w.heap.size + 1 + 1 < w18.heap.size := by omega
          have l_pb_1 : w.heap.size + 1 + 1 < w18.heap.size + 1 := by omega
          go_wp2_with fail
          refine (toAuth_L (RdL.cons (d := .ints bL0) bL0h.rd.b (RdL.cons (d := .ints bL1) bL1h.rd.b RdL.nil)) bL0n bL1n).mono ?_
          rintro e w19 ⟨xbA0, xbn0, xbc0, xbA1, xbn1, xbc1, rfl, rxb, b19⟩
          clear cpb_0 cpb_1 fpb_0 fpb_1 l_pb_0 l_pb_1
          have z19 := b19.size
          try simp only [World.size_alloc, World.size_setCell, size_drew] at z19
          have B19 : Below w.heap.size w w19 := Below.t b19
          have rxk_ := (rxk.alloc _).below b19
          clear rxk; have rxk := rxk_; clear rxk_
          have rxa_ := (rxa.alloc _).below b19
          clear rxa; have rxa := rxa_; clear rxa_
          have pk_ : Box w19 (w.heap.size) #[.int .i64 kI0, (.slice kA1 kn1 kc1)] 30 := (pk.alloc _).below b19 (by first | omega | (simp [size_drew]; done) | (simp [size_drew]; omega))
          clear pk; have pk := pk_; clear pk_
          have pa_ : Box w19 (w.heap.size + 1) #[(.slice aA0 an0 ac0), (.slice aA1 an1 ac1)] 44 := (pa.alloc _).below b19 (by first | omega | (simp [size_drew]; done) | (simp [size_drew]; omega))
          clear pa; have pa := pa_; clear pa_
          have pb_ : Box w19 (w.heap.size + 1 + 1) #[(.slice bA0 bn0 bc0), (.slice bA1 bn1 bc1)] 44 := (pb.alloc _).below b19 (by first | omega | (simp [size_drew]; done) | (simp [size_drew]; omega))
          clear pb; have pb := pb_; clear pb_
          have px_ : Box w19 (w.heap.size + 1 + 1 + 1) #[(.slice xA0 xn0 xc0), (.slice xA1 xn1 xc1), (.slice xA2 xn2 xc2), (.slice xA3 xn3 xc3), (.slice xA4 xn4 xc4), (.slice xA5 xn5 xc5)] 64 := (px.alloc _).below b19 (by first | omega | (simp [size_drew]; done) | (simp [size_drew]; omega))
          clear px; have px := px_; clear px_
          have kw0_ : Box w19 (gkw0) #[.int .i64 (toD kI0 kL1 aL0 aL1 bL0 bL1 xL0 xL1 xL2 xL3), .int .i64 (toE kI0 kL1 aL0 aL1 bL0 bL1 xL0 xL1 xL2 xL3)] 73 := (kw0.alloc _).below b19 (by first | omega | (simp [size_drew]; done) | (simp [size_drew]; omega))
          clear kw0; have kw0 := kw0_; clear kw0_
          have xk_ : Box w19 (w17.heap.size) #[.int .i64 kI0, (.slice xkA1 xkn1 xkc1)] 33 := (xk.alloc _).below b19 (by first | omega | (simp [size_drew]; done) | (simp [size_drew]; omega))
          clear xk; have xk := xk_; clear xk_
          have xa_ : Box w19 (w18.heap.size) #[(.slice xaA0 xan0 xac0), (.slice xaA1 xan1 xac1)] 38 := (Box.new (g := w18.heap.size) _ #[(.slice xaA0 xan0 xac0), (.slice xaA1 xan1 xac1)] 38 (by simp)).below b19 (by first | omega | (simp [size_drew]; done) | (simp [size_drew]; omega))
          have xa := xa_; clear xa_
          try simp only [World.size_alloc, World.size_setCell, size_drew] at rxb
          obtain ⟨cpx_0, cpx_1, cpx_2, cpx_3, cpx_4, cpx_5, fpx_0, fpx_1, fpx_2, fpx_3, fpx_4, fpx_5⟩ := px.six
          have l_px_0 : w.heap.size + 1 + 1 + 1 < w19.heap.size := by omega
          have l_px_1 : w.heap.size + 1 + 1 + 1 < w19.heap.size + 1 := by omega
          go_wp2_with fail
          refine (toTriple_L (RdL.cons (d := .ints xL0) xL0h.rd.b (RdL.cons (d := .ints xL1) xL1h.rd.b (RdL.cons (d := .ints xL2) xL2h.rd.b (RdL.cons (d := .ints xL3) xL3h.rd.b (RdL.cons (d := .ints xL4) xL4h.rd.b (RdL.cons (d := .ints xL5) xL5h.rd.b RdL.nil)))))) xL0n xL1n xL2n xL3n xL4n xL5n).mono ?_
          rintro e w20 ⟨xxA0, xxn0, xxc0, xxA1, xxn1, xxc1, xxA2, xxn2, xxc2, xxA3, xxn3, xxc3, xxA4, xxn4, xxc4, xxA5, xxn5, xxc5, rfl, rxx, b20⟩
          clear cpx_0 cpx_1 cpx_2 cpx_3 cpx_4 cpx_5 fpx_0 fpx_1 fpx_2 fpx_3 fpx_4 fpx_5 l_px_0 l_px_1
          have z20 := b20.size
          try simp only [World.size_alloc, World.size_setCell, size_drew] at z20
          have B20 : Below w.heap.size w w20 := Below.t b20
          have rxk_ := (rxk.alloc _).below b20
          clear rxk; have rxk := rxk_; clear rxk_
          have rxa_ := (rxa.alloc _).below b20
          clear rxa; have rxa := rxa_; clear rxa_
          have rxb_ := (rxb.alloc _).below b20
          clear rxb; have rxb := rxb_; clear rxb_
          have pk_ : Box w20 (w.heap.size) #[.int .i64 kI0, (.slice kA1 kn1 kc1)] 30 := (pk.alloc _).below b20 (by first | omega | (simp [size_drew]; done) | (simp [size_drew]; omega))
          clear pk; have pk := pk_; clear pk_
          have pa_ : Box w20 (w.heap.size + 1) #[(.slice aA0 an0 ac0), (.slice aA1 an1 ac1)] 44 := (pa.alloc _).below b20 (by first | omega | (simp [size_drew]; done) | (simp [size_drew]; omega))
          clear pa; have pa := pa_; clear pa_
          have pb_ : Box w20 (w.heap.size + 1 + 1) #[(.slice bA0 bn0 bc0), (.slice bA1 bn1 bc1)] 44 := (pb.alloc _).below b20 (by first | omega | (simp [size_drew]; done) | (simp [size_drew]; omega))
          clear pb; have pb := pb_; clear pb_
          have px_ : Box w20 (w.heap.size + 1 + 1 + 1) #[(.slice xA0 xn0 xc0), (.slice xA1 xn1 xc1), (.slice xA2 xn2 xc2), (.slice xA3 xn3 xc3), (.slice xA4 xn4 xc4), (.slice xA5 xn5 xc5)] 64 := (px.alloc _).below b20 (by first | omega | (simp [size_drew]; done) | (simp [size_drew]; omega))
          clear px; have px := px_; clear px_
          have kw0_ : Box w20 (gkw0) #[.int .i64 (toD kI0 kL1 aL0 aL1 bL0 bL1 xL0 xL1 xL2 xL3), .int .i64 (toE kI0 kL1 aL0 aL1 bL0 bL1 xL0 xL1 xL2 xL3)] 73 := (kw0.alloc _).below b20 (by first | omega | (simp [size_drew]; done) | (simp [size_drew]; omega))
          clear kw0; have kw0 := kw0_; clear kw0_
          have xk_ : Box w20 (w17.heap.size) #[.int .i64 kI0, (.slice xkA1 xkn1 xkc1)] 33 := (xk.alloc _).below b20 (by first | omega | (simp [size_drew]; done) | (simp [size_drew]; omega))
          clear xk; have xk := xk_; clear xk_
          have xa_ : Box w20 (w18.heap.size) #[(.slice xaA0 xan0 xac0), (.slice xaA1 xan1 xac1)] 38 := (xa.alloc _).below b20 (by first | omega | (simp [size_drew]; done) | (simp [size_drew]; omega))
          clear xa; have xa := xa_; clear xa_
          have xb_ : Box w20 (w19.heap.size) #[(.slice xbA0 xbn0 xbc0), (.slice xbA1 xbn1 xbc1)] 38 := (Box.new (g := w19.heap.size) _ #[(.slice xbA0 xbn0 xbc0), (.slice xbA1 xbn1 xbc1)] 38 (by simp)).below b20 (by first | omega | (simp [size_drew]; done) | (simp [size_drew]; omega))
          have xb := xb_; clear xb_
          try simp only [World.size_alloc, World.size_setCell, size_drew] at rxx
          obtain ⟨cxk_0, cxk_1, fxk_0, fxk_1⟩ := xk.two
          have l_xk_0 : w17.heap.size < w20.heap.size := by omega
          have l_xk_1 : w17.heap.size < w20.heap.size + 1 := by omega
          obtain ⟨cxa_0, cxa_1, fxa_0, fxa_1⟩ := xa.two
          have l_xa_0 : w18.heap.size < w20.heap.size := by omega
          have l_xa_1 : w18.heap.size < w20.heap.size + 1 := by omega
          obtain ⟨cxb_0, cxb_1, fxb_0, fxb_1⟩ := xb.two
          have l_xb_0 : w19.heap.size < w20.heap.size := by omega
          have l_xb_1 : w19.heap.size < w20.heap.size + 1 := by omega
          go_wp2_with fail
          refine (iTripleOpen_L kI0 (rxk.alloc _).rd kL1n (rxa.alloc _).rd aL0n aL1n (rxb.alloc _).rd bL0n bL1n (rxx.alloc _).rd xL0n xL1n xL2n xL3n xL4n xL5n).mono ?_
          rintro e w21 ⟨rfl, b21⟩
          clear cxk_0 cxk_1 fxk_0 fxk_1 l_xk_0 l_xk_1 cxa_0 cxa_1 fxa_0 fxa_1 l_xa_0 l_xa_1 cxb_0 cxb_1 fxb_0 fxb_1 l_xb_0 l_xb_1
          have z21 := b21.size
          try simp only [World.size_alloc, World.size_setCell, size_drew] at z21
          have B21 : Below w.heap.size w w21 := Below.t b21
          have rxk_ := (rxk.alloc _).below b21
          clear rxk; have rxk := rxk_; clear rxk_
          have rxa_ := (rxa.alloc _).below b21
          clear rxa; have rxa := rxa_; clear rxa_
          have rxb_ := (rxb.alloc _).below b21
          clear rxb; have rxb := rxb_; clear rxb_
          have rxx_ := (rxx.alloc _).below b21
          clear rxx; have rxx := rxx_; clear rxx_
          have pk_ : Box w21 (w.heap.size) #[.int .i64 kI0, (.slice kA1 kn1 kc1)] 30 := (pk.alloc _).below b21 (by first | omega | (simp [size_drew]; done) | (simp [size_drew]; omega))
          clear pk; have pk := pk_; clear pk_
          have pa_ : Box w21 (w.heap.size + 1) #[(.slice aA0 an0 ac0), (.slice aA1 an1 ac1)] 44 := (pa.alloc _).below b21 (by first | omega | (simp [size_drew]; done) | (simp [size_drew]; omega))
          clear pa; have pa := pa_; clear pa_
          have pb_ : Box w21 (w.heap.size + 1 + 1) #[(.slice bA0 bn0 bc0), (.slice bA1 bn1 bc1)] 44 := (pb.alloc _).below b21 (by first | omega | (simp [size_drew]; done) | (simp [size_drew]; omega))
          clear pb; have pb := pb_; clear pb_
          have px_ : Box w21 (w.heap.size + 1 + 1 + 1) #[(.slice xA0 xn0 xc0), (.slice xA1 xn1 xc1), (.slice xA2 xn2 xc2), (.slice xA3 xn3 xc3), (.slice xA4 xn4 xc4), (.slice xA5 xn5 xc5)] 64 := (px.alloc _).below b21 (by first | omega | (simp [size_drew]; done) | (simp [size_drew]; omega))
          clear px; have px := px_; clear px_
          have kw0_ : Box w21 (gkw0) #[.int .i64 (toD kI0 kL1 aL0 aL1 bL0 bL1 xL0 xL1 xL2 xL3), .int .i64 (toE kI0 kL1 aL0 aL1 bL0 bL1 xL0 xL1 xL2 xL3)] 73 := (kw0.alloc _).below b21 (by first | omega | (simp [size_drew]; done) | (simp [size_drew]; omega))
          clear kw0; have kw0 := kw0_; clear kw0_
          have xk_ : Box w21 (w17.heap.size) #[.int .i64 kI0, (.slice xkA1 xkn1 xkc1)] 33 := (xk.alloc _).below b21 (by first | omega | (simp [size_drew]; done) | (simp [size_drew]; omega))
          clear xk; have xk := xk_; clear xk_
          have xa_ : Box w21 (w18.heap.size) #[(.slice xaA0 xan0 xac0), (.slice xaA1 xan1 xac1)] 38 := (xa.alloc _).below b21 (by first | omega | (simp [size_drew]; done) | (simp [size_drew]; omega))
          clear xa; have xa := xa_; clear xa_
          have xb_ : Box w21 (w19.heap.size) #[(.slice xbA0 xbn0 xbc0), (.slice xbA1 xbn1 xbc1)] 38 := (xb.alloc _).below b21 (by first | omega | (simp [size_drew]; done) | (simp [size_drew]; omega))
          clear xb; have xb := xb_; clear xb_
          have xx_ : Box w21 (w20.heap.size) #[(.slice xxA0 xxn0 xxc0), (.slice xxA1 xxn1 xxc1), (.slice xxA2 xxn2 xxc2), (.slice xxA3 xxn3 xxc3), (.slice xxA4 xxn4 xxc4), (.slice xxA5 xxn5 xxc5)] 68 := (Box.new (g := w20.heap.size) _ #[(.slice xxA0 xxn0 xxc0), (.slice xxA1 xxn1 xxc1), (.slice xxA2 xxn2 xxc2), (.slice xxA3 xxn3 xxc3), (.slice xxA4 xxn4 xxc4), (.slice xxA5 xxn5 xxc5)] 68 (by simp)).below b21 (by first | omega | (simp [size_drew]; done) | (simp [size_drew]; omega))
          have xx := xx_; clear xx_
          obtain ⟨ckw0_0, ckw0_1, fkw0_0, fkw0_1⟩ := kw0.two
          have l_kw0_0 : gkw0 < w21.heap.size := by omega
          have l_kw0_1 : gkw0 < w21.heap.size + 1 := by omega
          go_wp2_with fail
          refine (eqOpening_L (toD kI0 kL1 aL0 aL1 bL0 bL1 xL0 xL1 xL2 xL3) (toE kI0 kL1 aL0 aL1 bL0 bL1 xL0 xL1 xL2 xL3)).mono ?_
          rintro e w22 ⟨rfl, b22⟩
          clear ckw0_0 ckw0_1 fkw0_0 fkw0_1 l_kw0_0 l_kw0_1
          have z22 := b22.size
          try simp only [World.size_alloc, World.size_setCell, size_drew] at z22
          have B22 : Below w.heap.size w w22 := Below.t b22
          have rxk_ := (rxk.alloc _).below b22
          clear rxk; have rxk := rxk_; clear rxk_
          have rxa_ := (rxa.alloc _).below b22
          clear rxa; have rxa := rxa_; clear rxa_
          have rxb_ := (rxb.alloc _).below b22
          clear rxb; have rxb := rxb_; clear rxb_
          have rxx_ := (rxx.alloc _).below b22
          clear rxx; have rxx := rxx_; clear rxx_
          have pk_ : Box w22 (w.heap.size) #[.int .i64 kI0, (.slice kA1 kn1 kc1)] 30 := (pk.alloc _).below b22 (by first | omega | (simp [size_drew]; done) | (simp [size_drew]; omega))
          clear pk; have pk := pk_; clear pk_
          have pa_ : Box w22 (w.heap.size + 1) #[(.slice aA0 an0 ac0), (.slice aA1 an1 ac1)] 44 := (pa.alloc _).below b22 (by first | omega | (simp [size_drew]; done) | (simp [size_drew]; omega))
          clear pa; have pa := pa_; clear pa_
          have pb_ : Box w22 (w.heap.size + 1 + 1) #[(.slice bA0 bn0 bc0), (.slice bA1 bn1 bc1)] 44 := (pb.alloc _).below b22 (by first | omega | (simp [size_drew]; done) | (simp [size_drew]; omega))
          clear pb; have pb := pb_; clear pb_
          have px_ : Box w22 (w.heap.size + 1 + 1 + 1) #[(.slice xA0 xn0 xc0), (.slice xA1 xn1 xc1), (.slice xA2 xn2 xc2), (.slice xA3 xn3 xc3), (.slice xA4 xn4 xc4), (.slice xA5 xn5 xc5)] 64 := (px.alloc _).below b22 (by first | omega | (simp [size_drew]; done) | (simp [size_drew]; omega))
          clear px; have px := px_; clear px_
          have kw0_ : Box w22 (gkw0) #[.int .i64 (toD kI0 kL1 aL0 aL1 bL0 bL1 xL0 xL1 xL2 xL3), .int .i64 (toE kI0 kL1 aL0 aL1 bL0 bL1 xL0 xL1 xL2 xL3)] 73 := (kw0.alloc _).below b22 (by first | omega | (simp [size_drew]; done) | (simp [size_drew]; omega))
          clear kw0; have kw0 := kw0_; clear kw0_
          have xk_ : Box w22 (w17.heap.size) #[.int .i64 kI0, (.slice xkA1 xkn1 xkc1)] 33 := (xk.alloc _).below b22 (by first | omega | (simp [size_drew]; done) | (simp [size_drew]; omega))
          clear xk; have xk := xk_; clear xk_
          have xa_ : Box w22 (w18.heap.size) #[(.slice xaA0 xan0 xac0), (.slice xaA1 xan1 xac1)] 38 := (xa.alloc _).below b22 (by first | omega | (simp [size_drew]; done) | (simp [size_drew]; omega))
          clear xa; have xa := xa_; clear xa_
          have xb_ : Box w22 (w19.heap.size) #[(.slice xbA0 xbn0 xbc0), (.slice xbA1 xbn1 xbc1)] 38 := (xb.alloc _).below b22 (by first | omega | (simp [size_drew]; done) | (simp [size_drew]; omega))
          clear xb; have xb := xb_; clear xb_
          have xx_ : Box w22 (w20.heap.size) #[(.slice xxA0 xxn0 xxc0), (.slice xxA1 xxn1 xxc1), (.slice xxA2 xxn2 xxc2), (.slice xxA3 xxn3 xxc3), (.slice xxA4 xxn4 xxc4), (.slice xxA5 xxn5 xxc5)] 68 := (xx.alloc _).below b22 (by first | omega | (simp [size_drew]; done) | (simp [size_drew]; omega))
          clear xx; have xx := xx_; clear xx_
          have kg0_ : Box w22 (w21.heap.size) #[.int .i64 (toD kI0 kL1 aL0 aL1 bL0 bL1 xL0 xL1 xL2 xL3), .int .i64 (toE kI0 kL1 aL0 aL1 bL0 bL1 xL0 xL1 xL2 xL3)] 73 := (Box.new (g := w21.heap.size) _ #[.int .i64 (toD kI0 kL1 aL0 aL1 bL0 bL1 xL0 xL1 xL2 xL3), .int .i64 (toE kI0 kL1 aL0 aL1 bL0 bL1 xL0 xL1 xL2 xL3)] 73 (by simp)).below b22 (by first | omega | (simp [size_drew]; done) | (simp [size_drew]; omega))
          have kg0 := kg0_; clear kg0_
          obtain ⟨cpk_0, cpk_1, fpk_0, fpk_1⟩ := pk.two
          have l_pk_0 : w.heap.size < w22.heap.size := by omega
          obtain ⟨cxk_0, cxk_1, fxk_0, fxk_1⟩ := xk.two
          have l_xk_0 : w17.heap.size < w22.heap.size := by omega
          go_wp2_with fail
          clear cpk_0 cpk_1 fpk_0 fpk_1 l_pk_0 cxk_0 cxk_1 fxk_0 fxk_1 l_xk_0
          refine wp_region_held_drew (S := fun W => W.cell? ⟨w.heap.size, 0, none⟩ = some (.int .i64 kI0) ∧ W.cell? ⟨w.heap.size, 1, none⟩ = some ((.slice kA1 kn1 kc1)) ∧ W.cell? ⟨w17.heap.size, 0, none⟩ = some (.int .i64 kI0) ∧ W.cell? ⟨w17.heap.size, 1, none⟩ = some ((.slice xkA1 xkn1 xkc1))) (by kernel_rfl) ⟨pk.drew.two.1, pk.drew.two.2.1, xk.drew.two.1, xk.drew.two.2.1⟩ (fun hS => ?_)
          (refine tk 0 hS ?_; (try simp only [Act.put, List.setIfInBounds_toArray, List.set_cons_zero, List.set_cons_succ]))
          (refine tk 1 hS ?_; (try simp only [Act.put, List.setIfInBounds_toArray, List.set_cons_zero, List.set_cons_succ]))
          refine on 2 ?_
          refine callH (by go_simp; (first | done | with_reducible rfl | exact ⟨rfl, rfl⟩)) ?_
          go_at_call 35
          refine (toKeys_L kI0 (RdL.cons (d := .ints kL1) kL1h.rd.b RdL.nil) kL1n).mono ?_
          rintro e w23 ⟨zkA1, zkn1, zkc1, rfl, rzk, b23⟩
          clear hS
          have z23 := Below.size b23
          (try simp only [World.size_alloc, World.size_setCell, size_drew] at z23)
          have B23 : Below w.heap.size w w23 := Below.t b23
          have rxk_ := (rxk.drew.below b23)
          clear rxk; have rxk := rxk_; clear rxk_
          have rxa_ := (rxa.drew.below b23)
          clear rxa; have rxa := rxa_; clear rxa_
          have rxb_ := (rxb.drew.below b23)
          clear rxb; have rxb := rxb_; clear rxb_
          have rxx_ := (rxx.drew.below b23)
          clear rxx; have rxx := rxx_; clear rxx_
          have pk_ : Box w23 (w.heap.size) #[.int .i64 kI0, (.slice kA1 kn1 kc1)] 30 := (Box.b pk.drew b23)
          clear pk; have pk := pk_; clear pk_
          have pa_ : Box w23 (w.heap.size + 1) #[(.slice aA0 an0 ac0), (.slice aA1 an1 ac1)] 44 := (Box.b pa.drew b23)
          clear pa; have pa := pa_; clear pa_
          have pb_ : Box w23 (w.heap.size + 1 + 1) #[(.slice bA0 bn0 bc0), (.slice bA1 bn1 bc1)] 44 := (Box.b pb.drew b23)
          clear pb; have pb := pb_; clear pb_
          have px_ : Box w23 (w.heap.size + 1 + 1 + 1) #[(.slice xA0 xn0 xc0), (.slice xA1 xn1 xc1), (.slice xA2 xn2 xc2), (.slice xA3 xn3 xc3), (.slice xA4 xn4 xc4), (.slice xA5 xn5 xc5)] 64 := (Box.b px.drew b23)
          clear px; have px := px_; clear px_
          have kw0_ : Box w23 (gkw0) #[.int .i64 (toD kI0 kL1 aL0 aL1 bL0 bL1 xL0 xL1 xL2 xL3), .int .i64 (toE kI0 kL1 aL0 aL1 bL0 bL1 xL0 xL1 xL2 xL3)] 73 := (Box.b kw0.drew b23)
          clear kw0; have kw0 := kw0_; clear kw0_
          have xk_ : Box w23 (w17.heap.size) #[.int .i64 kI0, (.slice xkA1 xkn1 xkc1)] 33 := (Box.b xk.drew b23)
          clear xk; have xk := xk_; clear xk_
          have xa_ : Box w23 (w18.heap.size) #[(.slice xaA0 xan0 xac0), (.slice xaA1 xan1 xac1)] 38 := (Box.b xa.drew b23)
          clear xa; have xa := xa_; clear xa_
          have xb_ : Box w23 (w19.heap.size) #[(.slice xbA0 xbn0 xbc0), (.slice xbA1 xbn1 xbc1)] 38 := (Box.b xb.drew b23)
          clear xb; have xb := xb_; clear xb_
          have xx_ : Box w23 (w20.heap.size) #[(.slice xxA0 xxn0 xxc0), (.slice xxA1 xxn1 xxc1), (.slice xxA2 xxn2 xxc2), (.slice xxA3 xxn3 xxc3), (.slice xxA4 xxn4 xxc4), (.slice xxA5 xxn5 xxc5)] 68 := (Box.b xx.drew b23)
          clear xx; have xx := xx_; clear xx_
          have kg0_ : Box w23 (w21.heap.size) #[.int .i64 (toD kI0 kL1 aL0 aL1 bL0 bL1 xL0 xL1 xL2 xL3), .int .i64 (toE kI0 kL1 aL0 aL1 bL0 bL1 xL0 xL1 xL2 xL3)] 73 := (Box.b kg0.drew b23)
          clear kg0; have kg0 := kg0_; clear kg0_
          (try simp only [World.size_alloc, World.size_setCell, size_drew] at rzk)
          refine ⟨_, rfl, ⟨pk.two.1, pk.two.2.1, xk.two.1, xk.two.2.1⟩, fun hS => ?_⟩
          (try simp only [Act.put, List.setIfInBounds_toArray, List.set_cons_zero, List.set_cons_succ])
          refine on 3 ?_
          refine callH (by go_simp; (first | done | with_reducible rfl | exact ⟨rfl, rfl⟩)) ?_
          go_at_call 37
          refine (eqKeys_L kI0 rxk.rd rzk.rd kL1n).mono ?_
          rintro e w24 ⟨rfl, b24⟩
          clear hS
          have z24 := Below.size b24
          (try simp only [World.size_alloc, World.size_setCell, size_drew] at z24)
          have B24 : Below w.heap.size w w24 := Below.t b24
          have rxk_ := (rxk.below b24)
          clear rxk; have rxk := rxk_; clear rxk_
          have rxa_ := (rxa.below b24)
          clear rxa; have rxa := rxa_; clear rxa_
          have rxb_ := (rxb.below b24)
          clear rxb; have rxb := rxb_; clear rxb_
          have rxx_ := (rxx.below b24)
          clear rxx; have rxx := rxx_; clear rxx_
          have rzk_ := (rzk.below b24)
          clear rzk; have rzk := rzk_; clear rzk_
          have pk_ : Box w24 (w.heap.size) #[.int .i64 kI0, (.slice kA1 kn1 kc1)] 30 := (Box.b pk b24)
          clear pk; have pk := pk_; clear pk_
          have pa_ : Box w24 (w.heap.size + 1) #[(.slice aA0 an0 ac0), (.slice aA1 an1 ac1)] 44 := (Box.b pa b24)
          clear pa; have pa := pa_; clear pa_
          have pb_ : Box w24 (w.heap.size + 1 + 1) #[(.slice bA0 bn0 bc0), (.slice bA1 bn1 bc1)] 44 := (Box.b pb b24)
          clear pb; have pb := pb_; clear pb_
          have px_ : Box w24 (w.heap.size + 1 + 1 + 1) #[(.slice xA0 xn0 xc0), (.slice xA1 xn1 xc1), (.slice xA2 xn2 xc2), (.slice xA3 xn3 xc3), (.slice xA4 xn4 xc4), (.slice xA5 xn5 xc5)] 64 := (Box.b px b24)
          clear px; have px := px_; clear px_
          have kw0_ : Box w24 (gkw0) #[.int .i64 (toD kI0 kL1 aL0 aL1 bL0 bL1 xL0 xL1 xL2 xL3), .int .i64 (toE kI0 kL1 aL0 aL1 bL0 bL1 xL0 xL1 xL2 xL3)] 73 := (Box.b kw0 b24)
          clear kw0; have kw0 := kw0_; clear kw0_
          have xk_ : Box w24 (w17.heap.size) #[.int .i64 kI0, (.slice xkA1 xkn1 xkc1)] 33 := (Box.b xk b24)
          clear xk; have xk := xk_; clear xk_
          have xa_ : Box w24 (w18.heap.size) #[(.slice xaA0 xan0 xac0), (.slice xaA1 xan1 xac1)] 38 := (Box.b xa b24)
          clear xa; have xa := xa_; clear xa_
          have xb_ : Box w24 (w19.heap.size) #[(.slice xbA0 xbn0 xbc0), (.slice xbA1 xbn1 xbc1)] 38 := (Box.b xb b24)
          clear xb; have xb := xb_; clear xb_
          have xx_ : Box w24 (w20.heap.size) #[(.slice xxA0 xxn0 xxc0), (.slice xxA1 xxn1 xxc1), (.slice xxA2 xxn2 xxc2), (.slice xxA3 xxn3 xxc3), (.slice xxA4 xxn4 xxc4), (.slice xxA5 xxn5 xxc5)] 68 := (Box.b xx b24)
          clear xx; have xx := xx_; clear xx_
          have kg0_ : Box w24 (w21.heap.size) #[.int .i64 (toD kI0 kL1 aL0 aL1 bL0 bL1 xL0 xL1 xL2 xL3), .int .i64 (toE kI0 kL1 aL0 aL1 bL0 bL1 xL0 xL1 xL2 xL3)] 73 := (Box.b kg0 b24)
          clear kg0; have kg0 := kg0_; clear kg0_
          refine ⟨_, rfl, ⟨pk.two.1, pk.two.2.1, xk.two.1, xk.two.2.1⟩, fun hS => ?_⟩
          (try simp only [Act.put, List.setIfInBounds_toArray, List.set_cons_zero, List.set_cons_succ])
          (refine tk 4 hS ?_; (try simp only [Act.put, List.setIfInBounds_toArray, List.set_cons_zero, List.set_cons_succ]))
          clear hS
          refine wpAnyH_done (by kernel_rfl) ?_ _
          obtain ⟨cpa_0, cpa_1, fpa_0, fpa_1⟩ := pa.two
          have l_pa_0 : w.heap.size + 1 < w24.heap.size := by omega
          obtain ⟨cxa_0, cxa_1, fxa_0, fxa_1⟩ := xa.two
          have l_xa_0 : w18.heap.size < w24.heap.size := by omega
          go_wp2_with fail
          clear cpa_0 cpa_1 fpa_0 fpa_1 l_pa_0 cxa_0 cxa_1 fxa_0 fxa_1 l_xa_0
          refine wp_region_held_drew (S := fun W => W.cell? ⟨w.heap.size + 1, 0, none⟩ = some ((.slice aA0 an0 ac0)) ∧ W.cell? ⟨w.heap.size + 1, 1, none⟩ = some ((.slice aA1 an1 ac1)) ∧ W.cell? ⟨w18.heap.size, 0, none⟩ = some ((.slice xaA0 xan0 xac0)) ∧ W.cell? ⟨w18.heap.size, 1, none⟩ = some ((.slice xaA1 xan1 xac1))) (by kernel_rfl) ⟨pa.drew.two.1, pa.drew.two.2.1, xa.drew.two.1, xa.drew.two.2.1⟩ (fun hS => ?_)
          (refine tk 0 hS ?_; (try simp only [Act.put, List.setIfInBounds_toArray, List.set_cons_zero, List.set_cons_succ]))
          (refine tk 1 hS ?_; (try simp only [Act.put, List.setIfInBounds_toArray, List.set_cons_zero, List.set_cons_succ]))
          refine on 2 ?_
          refine callH (by go_simp; (first | done | with_reducible rfl | exact ⟨rfl, rfl⟩)) ?_
          go_at_call 42
          refine (toAuth_L (RdL.cons (d := .ints aL0) aL0h.rd.b (RdL.cons (d := .ints aL1) aL1h.rd.b RdL.nil)) aL0n aL1n).mono ?_
          rintro e w25 ⟨zaA0, zan0, zac0, zaA1, zan1, zac1, rfl, rza, b25⟩
          clear hS
          have z25 := Below.size b25
          (try simp only [World.size_alloc, World.size_setCell, size_drew] at z25)
          have B25 : Below w.heap.size w w25 := Below.t b25
          have rxk_ := (rxk.drew.below b25)
          clear rxk; have rxk := rxk_; clear rxk_
          have rxa_ := (rxa.drew.below b25)
          clear rxa; have rxa := rxa_; clear rxa_
          have rxb_ := (rxb.drew.below b25)
          clear rxb; have rxb := rxb_; clear rxb_
          have rxx_ := (rxx.drew.below b25)
          clear rxx; have rxx := rxx_; clear rxx_
          have pk_ : Box w25 (w.heap.size) #[.int .i64 kI0, (.slice kA1 kn1 kc1)] 30 := (Box.b pk.drew b25)
          clear pk; have pk := pk_; clear pk_
          have pa_ : Box w25 (w.heap.size + 1) #[(.slice aA0 an0 ac0), (.slice aA1 an1 ac1)] 44 := (Box.b pa.drew b25)
          clear pa; have pa := pa_; clear pa_
          have pb_ : Box w25 (w.heap.size + 1 + 1) #[(.slice bA0 bn0 bc0), (.slice bA1 bn1 bc1)] 44 := (Box.b pb.drew b25)
          clear pb; have pb := pb_; clear pb_
          have px_ : Box w25 (w.heap.size + 1 + 1 + 1) #[(.slice xA0 xn0 xc0), (.slice xA1 xn1 xc1), (.slice xA2 xn2 xc2), (.slice xA3 xn3 xc3), (.slice xA4 xn4 xc4), (.slice xA5 xn5 xc5)] 64 := (Box.b px.drew b25)
          clear px; have px := px_; clear px_
          have kw0_ : Box w25 (gkw0) #[.int .i64 (toD kI0 kL1 aL0 aL1 bL0 bL1 xL0 xL1 xL2 xL3), .int .i64 (toE kI0 kL1 aL0 aL1 bL0 bL1 xL0 xL1 xL2 xL3)] 73 := (Box.b kw0.drew b25)
          clear kw0; have kw0 := kw0_; clear kw0_
          have xk_ : Box w25 (w17.heap.size) #[.int .i64 kI0, (.slice xkA1 xkn1 xkc1)] 33 := (Box.b xk.drew b25)
          clear xk; have xk := xk_; clear xk_
          have xa_ : Box w25 (w18.heap.size) #[(.slice xaA0 xan0 xac0), (.slice xaA1 xan1 xac1)] 38 := (Box.b xa.drew b25)
          clear xa; have xa := xa_; clear xa_
          have xb_ : Box w25 (w19.heap.size) #[(.slice xbA0 xbn0 xbc0), (.slice xbA1 xbn1 xbc1)] 38 := (Box.b xb.drew b25)
          clear xb; have xb := xb_; clear xb_
          have xx_ : Box w25 (w20.heap.size) #[(.slice xxA0 xxn0 xxc0), (.slice xxA1 xxn1 xxc1), (.slice xxA2 xxn2 xxc2), (.slice xxA3 xxn3 xxc3), (.slice xxA4 xxn4 xxc4), (.slice xxA5 xxn5 xxc5)] 68 := (Box.b xx.drew b25)
          clear xx; have xx := xx_; clear xx_
          have kg0_ : Box w25 (w21.heap.size) #[.int .i64 (toD kI0 kL1 aL0 aL1 bL0 bL1 xL0 xL1 xL2 xL3), .int .i64 (toE kI0 kL1 aL0 aL1 bL0 bL1 xL0 xL1 xL2 xL3)] 73 := (Box.b kg0.drew b25)
          clear kg0; have kg0 := kg0_; clear kg0_
          (try simp only [World.size_alloc, World.size_setCell, size_drew] at rza)
          refine ⟨_, rfl, ⟨pa.two.1, pa.two.2.1, xa.two.1, xa.two.2.1⟩, fun hS => ?_⟩
          (try simp only [Act.put, List.setIfInBounds_toArray, List.set_cons_zero, List.set_cons_succ])
          refine on 3 ?_
          refine callH (by go_simp; (first | done | with_reducible rfl | exact ⟨rfl, rfl⟩)) ?_
          go_at_call 43
          refine (eqAuth_L rxa.rd rza.rd aL0n aL1n).mono ?_
          rintro e w26 ⟨rfl, b26⟩
          clear hS
          have z26 := Below.size b26
          (try simp only [World.size_alloc, World.size_setCell, size_drew] at z26)
          have B26 : Below w.heap.size w w26 := Below.t b26
          have rxk_ := (rxk.below b26)
          clear rxk; have rxk := rxk_; clear rxk_
          have rxa_ := (rxa.below b26)
          clear rxa; have rxa := rxa_; clear rxa_
          have rxb_ := (rxb.below b26)
          clear rxb; have rxb := rxb_; clear rxb_
          have rxx_ := (rxx.below b26)
          clear rxx; have rxx := rxx_; clear rxx_
          have rza_ := (rza.below b26)
          clear rza; have rza := rza_; clear rza_
          have pk_ : Box w26 (w.heap.size) #[.int .i64 kI0, (.slice kA1 kn1 kc1)] 30 := (Box.b pk b26)
          clear pk; have pk := pk_; clear pk_
          have pa_ : Box w26 (w.heap.size + 1) #[(.slice aA0 an0 ac0), (.slice aA1 an1 ac1)] 44 := (Box.b pa b26)
          clear pa; have pa := pa_; clear pa_
          have pb_ : Box w26 (w.heap.size + 1 + 1) #[(.slice bA0 bn0 bc0), (.slice bA1 bn1 bc1)] 44 := (Box.b pb b26)
          clear pb; have pb := pb_; clear pb_
          have px_ : Box w26 (w.heap.size + 1 + 1 + 1) #[(.slice xA0 xn0 xc0), (.slice xA1 xn1 xc1), (.slice xA2 xn2 xc2), (.slice xA3 xn3 xc3), (.slice xA4 xn4 xc4), (.slice xA5 xn5 xc5)] 64 := (Box.b px b26)
          clear px; have px := px_; clear px_
          have kw0_ : Box w26 (gkw0) #[.int .i64 (toD kI0 kL1 aL0 aL1 bL0 bL1 xL0 xL1 xL2 xL3), .int .i64 (toE kI0 kL1 aL0 aL1 bL0 bL1 xL0 xL1 xL2 xL3)] 73 := (Box.b kw0 b26)
          clear kw0; have kw0 := kw0_; clear kw0_
          have xk_ : Box w26 (w17.heap.size) #[.int .i64 kI0, (.slice xkA1 xkn1 xkc1)] 33 := (Box.b xk b26)
          clear xk; have xk := xk_; clear xk_
          have xa_ : Box w26 (w18.heap.size) #[(.slice xaA0 xan0 xac0), (.slice xaA1 xan1 xac1)] 38 := (Box.b xa b26)
          clear xa; have xa := xa_; clear xa_
          have xb_ : Box w26 (w19.heap.size) #[(.slice xbA0 xbn0 xbc0), (.slice xbA1 xbn1 xbc1)] 38 := (Box.b xb b26)
          clear xb; have xb := xb_; clear xb_
          have xx_ : Box w26 (w20.heap.size) #[(.slice xxA0 xxn0 xxc0), (.slice xxA1 xxn1 xxc1), (.slice xxA2 xxn2 xxc2), (.slice xxA3 xxn3 xxc3), (.slice xxA4 xxn4 xxc4), (.slice xxA5 xxn5 xxc5)] 68 := (Box.b xx b26)
          clear xx; have xx := xx_; clear xx_
          have kg0_ : Box w26 (w21.heap.size) #[.int .i64 (toD kI0 kL1 aL0 aL1 bL0 bL1 xL0 xL1 xL2 xL3), .int .i64 (toE kI0 kL1 aL0 aL1 bL0 bL1 xL0 xL1 xL2 xL3)] 73 := (Box.b kg0 b26)
          clear kg0; have kg0 := kg0_; clear kg0_
          refine ⟨_, rfl, ⟨pa.two.1, pa.two.2.1, xa.two.1, xa.two.2.1⟩, fun hS => ?_⟩
          (try simp only [Act.put, List.setIfInBounds_toArray, List.set_cons_zero, List.set_cons_succ])
          (refine tk 4 hS ?_; (try simp only [Act.put, List.setIfInBounds_toArray, List.set_cons_zero, List.set_cons_succ]))
          clear hS
          refine wpAnyH_done (by kernel_rfl) ?_ _
          obtain ⟨cpb_0, cpb_1, fpb_0, fpb_1⟩ := pb.two
          have l_pb_0 : w.heap.size + 1 + 1 < w26.heap.size := by omega
          obtain ⟨cxb_0, cxb_1, fxb_0, fxb_1⟩ := xb.two
          have l_xb_0 : w19.heap.size < w26.heap.size := by omega
          go_wp2_with fail
          clear cpb_0 cpb_1 fpb_0 fpb_1 l_pb_0 cxb_0 cxb_1 fxb_0 fxb_1 l_xb_0
          refine wp_region_held_drew (S := fun W => W.cell? ⟨w.heap.size + 1 + 1, 0, none⟩ = some ((.slice bA0 bn0 bc0)) ∧ W.cell? ⟨w.heap.size + 1 + 1, 1, none⟩ = some ((.slice bA1 bn1 bc1)) ∧ W.cell? ⟨w19.heap.size, 0, none⟩ = some ((.slice xbA0 xbn0 xbc0)) ∧ W.cell? ⟨w19.heap.size, 1, none⟩ = some ((.slice xbA1 xbn1 xbc1))) (by kernel_rfl) ⟨pb.drew.two.1, pb.drew.two.2.1, xb.drew.two.1, xb.drew.two.2.1⟩ (fun hS => ?_)
          (refine tk 0 hS ?_; (try simp only [Act.put, List.setIfInBounds_toArray, List.set_cons_zero, List.set_cons_succ]))
          (refine tk 1 hS ?_; (try simp only [Act.put, List.setIfInBounds_toArray, List.set_cons_zero, List.set_cons_succ]))
          refine on 2 ?_
          refine callH (by go_simp; (first | done | with_reducible rfl | exact ⟨rfl, rfl⟩)) ?_
          go_at_call 42
          refine (toAuth_L (RdL.cons (d := .ints bL0) bL0h.rd.b (RdL.cons (d := .ints bL1) bL1h.rd.b RdL.nil)) bL0n bL1n).mono ?_
          rintro e w27 ⟨zbA0, zbn0, zbc0, zbA1, zbn1, zbc1, rfl, rzb, b27⟩
          clear hS
          have z27 := Below.size b27
          (try simp only [World.size_alloc, World.size_setCell, size_drew] at z27)
          have B27 : Below w.heap.size w w27 := Below.t b27
          have rxk_ := (rxk.drew.below b27)
          clear rxk; have rxk := rxk_; clear rxk_
          have rxa_ := (rxa.drew.below b27)
          clear rxa; have rxa := rxa_; clear rxa_
          have rxb_ := (rxb.drew.below b27)
          clear rxb; have rxb := rxb_; clear rxb_
          have rxx_ := (rxx.drew.below b27)
          clear rxx; have rxx := rxx_; clear rxx_
          have pk_ : Box w27 (w.heap.size) #[.int .i64 kI0, (.slice kA1 kn1 kc1)] 30 := (Box.b pk.drew b27)
          clear pk; have pk := pk_; clear pk_
          have pa_ : Box w27 (w.heap.size + 1) #[(.slice aA0 an0 ac0), (.slice aA1 an1 ac1)] 44 := (Box.b pa.drew b27)
          clear pa; have pa := pa_; clear pa_
          have pb_ : Box w27 (w.heap.size + 1 + 1) #[(.slice bA0 bn0 bc0), (.slice bA1 bn1 bc1)] 44 := (Box.b pb.drew b27)
          clear pb; have pb := pb_; clear pb_
          have px_ : Box w27 (w.heap.size + 1 + 1 + 1) #[(.slice xA0 xn0 xc0), (.slice xA1 xn1 xc1), (.slice xA2 xn2 xc2), (.slice xA3 xn3 xc3), (.slice xA4 xn4 xc4), (.slice xA5 xn5 xc5)] 64 := (Box.b px.drew b27)
          clear px; have px := px_; clear px_
          have kw0_ : Box w27 (gkw0) #[.int .i64 (toD kI0 kL1 aL0 aL1 bL0 bL1 xL0 xL1 xL2 xL3), .int .i64 (toE kI0 kL1 aL0 aL1 bL0 bL1 xL0 xL1 xL2 xL3)] 73 := (Box.b kw0.drew b27)
          clear kw0; have kw0 := kw0_; clear kw0_
          have xk_ : Box w27 (w17.heap.size) #[.int .i64 kI0, (.slice xkA1 xkn1 xkc1)] 33 := (Box.b xk.drew b27)
          clear xk; have xk := xk_; clear xk_
          have xa_ : Box w27 (w18.heap.size) #[(.slice xaA0 xan0 xac0), (.slice xaA1 xan1 xac1)] 38 := (Box.b xa.drew b27)
          clear xa; have xa := xa_; clear xa_
          have xb_ : Box w27 (w19.heap.size) #[(.slice xbA0 xbn0 xbc0), (.slice xbA1 xbn1 xbc1)] 38 := (Box.b xb.drew b27)
          clear xb; have xb := xb_; clear xb_
          have xx_ : Box w27 (w20.heap.size) #[(.slice xxA0 xxn0 xxc0), (.slice xxA1 xxn1 xxc1), (.slice xxA2 xxn2 xxc2), (.slice xxA3 xxn3 xxc3), (.slice xxA4 xxn4 xxc4), (.slice xxA5 xxn5 xxc5)] 68 := (Box.b xx.drew b27)
          clear xx; have xx := xx_; clear xx_
          have kg0_ : Box w27 (w21.heap.size) #[.int .i64 (toD kI0 kL1 aL0 aL1 bL0 bL1 xL0 xL1 xL2 xL3), .int .i64 (toE kI0 kL1 aL0 aL1 bL0 bL1 xL0 xL1 xL2 xL3)] 73 := (Box.b kg0.drew b27)
          clear kg0; have kg0 := kg0_; clear kg0_
          (try simp only [World.size_alloc, World.size_setCell, size_drew] at rzb)
          refine ⟨_, rfl, ⟨pb.two.1, pb.two.2.1, xb.two.1, xb.two.2.1⟩, fun hS => ?_⟩
          (try simp only [Act.put, List.setIfInBounds_toArray, List.set_cons_zero, List.set_cons_succ])
          refine on 3 ?_
          refine callH (by go_simp; (first | done | with_reducible rfl | exact ⟨rfl, rfl⟩)) ?_
          go_at_call 43
          refine (eqAuth_L rxb.rd rzb.rd bL0n bL1n).mono ?_
          rintro e w28 ⟨rfl, b28⟩
          clear hS
          have z28 := Below.size b28
          (try simp only [World.size_alloc, World.size_setCell, size_drew] at z28)
          have B28 : Below w.heap.size w w28 := Below.t b28
          have rxk_ := (rxk.below b28)
          clear rxk; have rxk := rxk_; clear rxk_
          have rxa_ := (rxa.below b28)
          clear rxa; have rxa := rxa_; clear rxa_
          have rxb_ := (rxb.below b28)
          clear rxb; have rxb := rxb_; clear rxb_
          have rxx_ := (rxx.below b28)
          clear rxx; have rxx := rxx_; clear rxx_
          have rzb_ := (rzb.below b28)
          clear rzb; have rzb := rzb_; clear rzb_
          have pk_ : Box w28 (w.heap.size) #[.int .i64 kI0, (.slice kA1 kn1 kc1)] 30 := (Box.b pk b28)
          clear pk; have pk := pk_; clear pk_
          have pa_ : Box w28 (w.heap.size + 1) #[(.slice aA0 an0 ac0), (.slice aA1 an1 ac1)] 44 := (Box.b pa b28)
          clear pa; have pa := pa_; clear pa_
          have pb_ : Box w28 (w.heap.size + 1 + 1) #[(.slice bA0 bn0 bc0), (.slice bA1 bn1 bc1)] 44 := (Box.b pb b28)
          clear pb; have pb := pb_; clear pb_
          have px_ : Box w28 (w.heap.size + 1 + 1 + 1) #[(.slice xA0 xn0 xc0), (.slice xA1 xn1 xc1), (.slice xA2 xn2 xc2), (.slice xA3 xn3 xc3), (.slice xA4 xn4 xc4), (.slice xA5 xn5 xc5)] 64 := (Box.b px b28)
          clear px; have px := px_; clear px_
          have kw0_ : Box w28 (gkw0) #[.int .i64 (toD kI0 kL1 aL0 aL1 bL0 bL1 xL0 xL1 xL2 xL3), .int .i64 (toE kI0 kL1 aL0 aL1 bL0 bL1 xL0 xL1 xL2 xL3)] 73 := (Box.b kw0 b28)
          clear kw0; have kw0 := kw0_; clear kw0_
          have xk_ : Box w28 (w17.heap.size) #[.int .i64 kI0, (.slice xkA1 xkn1 xkc1)] 33 := (Box.b xk b28)
          clear xk; have xk := xk_; clear xk_
          have xa_ : Box w28 (w18.heap.size) #[(.slice xaA0 xan0 xac0), (.slice xaA1 xan1 xac1)] 38 := (Box.b xa b28)
          clear xa; have xa := xa_; clear xa_
          have xb_ : Box w28 (w19.heap.size) #[(.slice xbA0 xbn0 xbc0), (.slice xbA1 xbn1 xbc1)] 38 := (Box.b xb b28)
          clear xb; have xb := xb_; clear xb_
          have xx_ : Box w28 (w20.heap.size) #[(.slice xxA0 xxn0 xxc0), (.slice xxA1 xxn1 xxc1), (.slice xxA2 xxn2 xxc2), (.slice xxA3 xxn3 xxc3), (.slice xxA4 xxn4 xxc4), (.slice xxA5 xxn5 xxc5)] 68 := (Box.b xx b28)
          clear xx; have xx := xx_; clear xx_
          have kg0_ : Box w28 (w21.heap.size) #[.int .i64 (toD kI0 kL1 aL0 aL1 bL0 bL1 xL0 xL1 xL2 xL3), .int .i64 (toE kI0 kL1 aL0 aL1 bL0 bL1 xL0 xL1 xL2 xL3)] 73 := (Box.b kg0 b28)
          clear kg0; have kg0 := kg0_; clear kg0_
          refine ⟨_, rfl, ⟨pb.two.1, pb.two.2.1, xb.two.1, xb.two.2.1⟩, fun hS => ?_⟩
          (try simp only [Act.put, List.setIfInBounds_toArray, List.set_cons_zero, List.set_cons_succ])
          (refine tk 4 hS ?_; (try simp only [Act.put, List.setIfInBounds_toArray, List.set_cons_zero, List.set_cons_succ]))
          clear hS
          refine wpAnyH_done (by kernel_rfl) ?_ _
          obtain ⟨cpx_0, cpx_1, cpx_2, cpx_3, cpx_4, cpx_5, fpx_0, fpx_1, fpx_2, fpx_3, fpx_4, fpx_5⟩ := px.six
          have l_px_0 : w.heap.size + 1 + 1 + 1 < w28.heap.size := by omega
          obtain ⟨cxx_0, cxx_1, cxx_2, cxx_3, cxx_4, cxx_5, fxx_0, fxx_1, fxx_2, fxx_3, fxx_4, fxx_5⟩ := xx.six
          have l_xx_0 : w20.heap.size < w28.heap.size := by omega
          go_wp2_with fail
          clear cpx_0 cpx_1 cpx_2 cpx_3 cpx_4 cpx_5 fpx_0 fpx_1 fpx_2 fpx_3 fpx_4 fpx_5 l_px_0 cxx_0 cxx_1 cxx_2 cxx_3 cxx_4 cxx_5 fxx_0 fxx_1 fxx_2 fxx_3 fxx_4 fxx_5 l_xx_0
          refine wp_region_held_drew (S := fun W => W.cell? ⟨w.heap.size + 1 + 1 + 1, 0, none⟩ = some ((.slice xA0 xn0 xc0)) ∧ W.cell? ⟨w.heap.size + 1 + 1 + 1, 1, none⟩ = some ((.slice xA1 xn1 xc1)) ∧ W.cell? ⟨w.heap.size + 1 + 1 + 1, 2, none⟩ = some ((.slice xA2 xn2 xc2)) ∧ W.cell? ⟨w.heap.size + 1 + 1 + 1, 3, none⟩ = some ((.slice xA3 xn3 xc3)) ∧ W.cell? ⟨w.heap.size + 1 + 1 + 1, 4, none⟩ = some ((.slice xA4 xn4 xc4)) ∧ W.cell? ⟨w.heap.size + 1 + 1 + 1, 5, none⟩ = some ((.slice xA5 xn5 xc5)) ∧ W.cell? ⟨w20.heap.size, 0, none⟩ = some ((.slice xxA0 xxn0 xxc0)) ∧ W.cell? ⟨w20.heap.size, 1, none⟩ = some ((.slice xxA1 xxn1 xxc1)) ∧ W.cell? ⟨w20.heap.size, 2, none⟩ = some ((.slice xxA2 xxn2 xxc2)) ∧ W.cell? ⟨w20.heap.size, 3, none⟩ = some ((.slice xxA3 xxn3 xxc3)) ∧ W.cell? ⟨w20.heap.size, 4, none⟩ = some ((.slice xxA4 xxn4 xxc4)) ∧ W.cell? ⟨w20.heap.size, 5, none⟩ = some ((.slice xxA5 xxn5 xxc5))) (by kernel_rfl) ⟨px.drew.six.1, px.drew.six.2.1, px.drew.six.2.2.1, px.drew.six.2.2.2.1, px.drew.six.2.2.2.2.1, px.drew.six.2.2.2.2.2.1, xx.drew.six.1, xx.drew.six.2.1, xx.drew.six.2.2.1, xx.drew.six.2.2.2.1, xx.drew.six.2.2.2.2.1, xx.drew.six.2.2.2.2.2.1⟩ (fun hS => ?_)
          (refine tk 0 hS ?_; (try simp only [Act.put, List.setIfInBounds_toArray, List.set_cons_zero, List.set_cons_succ]))
          (refine tk 1 hS ?_; (try simp only [Act.put, List.setIfInBounds_toArray, List.set_cons_zero, List.set_cons_succ]))
          refine on 2 ?_
          refine callH (by go_simp; (first | done | with_reducible rfl | exact ⟨rfl, rfl⟩)) ?_
          go_at_call 60
          refine (toTriple_L (RdL.cons (d := .ints xL0) xL0h.rd.b (RdL.cons (d := .ints xL1) xL1h.rd.b (RdL.cons (d := .ints xL2) xL2h.rd.b (RdL.cons (d := .ints xL3) xL3h.rd.b (RdL.cons (d := .ints xL4) xL4h.rd.b (RdL.cons (d := .ints xL5) xL5h.rd.b RdL.nil)))))) xL0n xL1n xL2n xL3n xL4n xL5n).mono ?_
          rintro e w29 ⟨zxA0, zxn0, zxc0, zxA1, zxn1, zxc1, zxA2, zxn2, zxc2, zxA3, zxn3, zxc3, zxA4, zxn4, zxc4, zxA5, zxn5, zxc5, rfl, rzx, b29⟩
          clear hS
          have z29 := Below.size b29
          (try simp only [World.size_alloc, World.size_setCell, size_drew] at z29)
          have B29 : Below w.heap.size w w29 := Below.t b29
          have rxk_ := (rxk.drew.below b29)
          clear rxk; have rxk := rxk_; clear rxk_
          have rxa_ := (rxa.drew.below b29)
          clear rxa; have rxa := rxa_; clear rxa_
          have rxb_ := (rxb.drew.below b29)
          clear rxb; have rxb := rxb_; clear rxb_
          have rxx_ := (rxx.drew.below b29)
          clear rxx; have rxx := rxx_; clear rxx_
          have pk_ : Box w29 (w.heap.size) #[.int .i64 kI0, (.slice kA1 kn1 kc1)] 30 := (Box.b pk.drew b29)
          clear pk; have pk := pk_; clear pk_
          have pa_ : Box w29 (w.heap.size + 1) #[(.slice aA0 an0 ac0), (.slice aA1 an1 ac1)] 44 := (Box.b pa.drew b29)
          clear pa; have pa := pa_; clear pa_
          have pb_ : Box w29 (w.heap.size + 1 + 1) #[(.slice bA0 bn0 bc0), (.slice bA1 bn1 bc1)] 44 := (Box.b pb.drew b29)
          clear pb; have pb := pb_; clear pb_
          have px_ : Box w29 (w.heap.size + 1 + 1 + 1) #[(.slice xA0 xn0 xc0), (.slice xA1 xn1 xc1), (.slice xA2 xn2 xc2), (.slice xA3 xn3 xc3), (.slice xA4 xn4 xc4), (.slice xA5 xn5 xc5)] 64 := (Box.b px.drew b29)
          clear px; have px := px_; clear px_
          have kw0_ : Box w29 (gkw0) #[.int .i64 (toD kI0 kL1 aL0 aL1 bL0 bL1 xL0 xL1 xL2 xL3), .int .i64 (toE kI0 kL1 aL0 aL1 bL0 bL1 xL0 xL1 xL2 xL3)] 73 := (Box.b kw0.drew b29)
          clear kw0; have kw0 := kw0_; clear kw0_
          have xk_ : Box w29 (w17.heap.size) #[.int .i64 kI0, (.slice xkA1 xkn1 xkc1)] 33 := (Box.b xk.drew b29)
          clear xk; have xk := xk_; clear xk_
          have xa_ : Box w29 (w18.heap.size) #[(.slice xaA0 xan0 xac0), (.slice xaA1 xan1 xac1)] 38 := (Box.b xa.drew b29)
          clear xa; have xa := xa_; clear xa_
          have xb_ : Box w29 (w19.heap.size) #[(.slice xbA0 xbn0 xbc0), (.slice xbA1 xbn1 xbc1)] 38 := (Box.b xb.drew b29)
          clear xb; have xb := xb_; clear xb_
          have xx_ : Box w29 (w20.heap.size) #[(.slice xxA0 xxn0 xxc0), (.slice xxA1 xxn1 xxc1), (.slice xxA2 xxn2 xxc2), (.slice xxA3 xxn3 xxc3), (.slice xxA4 xxn4 xxc4), (.slice xxA5 xxn5 xxc5)] 68 := (Box.b xx.drew b29)
          clear xx; have xx := xx_; clear xx_
          have kg0_ : Box w29 (w21.heap.size) #[.int .i64 (toD kI0 kL1 aL0 aL1 bL0 bL1 xL0 xL1 xL2 xL3), .int .i64 (toE kI0 kL1 aL0 aL1 bL0 bL1 xL0 xL1 xL2 xL3)] 73 := (Box.b kg0.drew b29)
          clear kg0; have kg0 := kg0_; clear kg0_
          (try simp only [World.size_alloc, World.size_setCell, size_drew] at rzx)
          refine ⟨_, rfl, ⟨px.six.1, px.six.2.1, px.six.2.2.1, px.six.2.2.2.1, px.six.2.2.2.2.1, px.six.2.2.2.2.2.1, xx.six.1, xx.six.2.1, xx.six.2.2.1, xx.six.2.2.2.1, xx.six.2.2.2.2.1, xx.six.2.2.2.2.2.1⟩, fun hS => ?_⟩
          (try simp only [Act.put, List.setIfInBounds_toArray, List.set_cons_zero, List.set_cons_succ])
          refine on 3 ?_
          refine callH (by go_simp; (first | done | with_reducible rfl | exact ⟨rfl, rfl⟩)) ?_
          go_at_call 62
          refine (eqTriple_L rxx.rd rzx.rd xL0n xL1n xL2n xL3n xL4n xL5n).mono ?_
          rintro e w30 ⟨rfl, b30⟩
          clear hS
          have z30 := Below.size b30
          (try simp only [World.size_alloc, World.size_setCell, size_drew] at z30)
          have B30 : Below w.heap.size w w30 := Below.t b30
          have rxk_ := (rxk.below b30)
          clear rxk; have rxk := rxk_; clear rxk_
          have rxa_ := (rxa.below b30)
          clear rxa; have rxa := rxa_; clear rxa_
          have rxb_ := (rxb.below b30)
          clear rxb; have rxb := rxb_; clear rxb_
          have rxx_ := (rxx.below b30)
          clear rxx; have rxx := rxx_; clear rxx_
          have rzx_ := (rzx.below b30)
          clear rzx; have rzx := rzx_; clear rzx_
          have pk_ : Box w30 (w.heap.size) #[.int .i64 kI0, (.slice kA1 kn1 kc1)] 30 := (Box.b pk b30)
          clear pk; have pk := pk_; clear pk_
          have pa_ : Box w30 (w.heap.size + 1) #[(.slice aA0 an0 ac0), (.slice aA1 an1 ac1)] 44 := (Box.b pa b30)
          clear pa; have pa := pa_; clear pa_
          have pb_ : Box w30 (w.heap.size + 1 + 1) #[(.slice bA0 bn0 bc0), (.slice bA1 bn1 bc1)] 44 := (Box.b pb b30)
          clear pb; have pb := pb_; clear pb_
          have px_ : Box w30 (w.heap.size + 1 + 1 + 1) #[(.slice xA0 xn0 xc0), (.slice xA1 xn1 xc1), (.slice xA2 xn2 xc2), (.slice xA3 xn3 xc3), (.slice xA4 xn4 xc4), (.slice xA5 xn5 xc5)] 64 := (Box.b px b30)
          clear px; have px := px_; clear px_
          have kw0_ : Box w30 (gkw0) #[.int .i64 (toD kI0 kL1 aL0 aL1 bL0 bL1 xL0 xL1 xL2 xL3), .int .i64 (toE kI0 kL1 aL0 aL1 bL0 bL1 xL0 xL1 xL2 xL3)] 73 := (Box.b kw0 b30)
          clear kw0; have kw0 := kw0_; clear kw0_
          have xk_ : Box w30 (w17.heap.size) #[.int .i64 kI0, (.slice xkA1 xkn1 xkc1)] 33 := (Box.b xk b30)
          clear xk; have xk := xk_; clear xk_
          have xa_ : Box w30 (w18.heap.size) #[(.slice xaA0 xan0 xac0), (.slice xaA1 xan1 xac1)] 38 := (Box.b xa b30)
          clear xa; have xa := xa_; clear xa_
          have xb_ : Box w30 (w19.heap.size) #[(.slice xbA0 xbn0 xbc0), (.slice xbA1 xbn1 xbc1)] 38 := (Box.b xb b30)
          clear xb; have xb := xb_; clear xb_
          have xx_ : Box w30 (w20.heap.size) #[(.slice xxA0 xxn0 xxc0), (.slice xxA1 xxn1 xxc1), (.slice xxA2 xxn2 xxc2), (.slice xxA3 xxn3 xxc3), (.slice xxA4 xxn4 xxc4), (.slice xxA5 xxn5 xxc5)] 68 := (Box.b xx b30)
          clear xx; have xx := xx_; clear xx_
          have kg0_ : Box w30 (w21.heap.size) #[.int .i64 (toD kI0 kL1 aL0 aL1 bL0 bL1 xL0 xL1 xL2 xL3), .int .i64 (toE kI0 kL1 aL0 aL1 bL0 bL1 xL0 xL1 xL2 xL3)] 73 := (Box.b kg0 b30)
          clear kg0; have kg0 := kg0_; clear kg0_
          refine ⟨_, rfl, ⟨px.six.1, px.six.2.1, px.six.2.2.1, px.six.2.2.2.1, px.six.2.2.2.2.1, px.six.2.2.2.2.2.1, xx.six.1, xx.six.2.1, xx.six.2.2.1, xx.six.2.2.2.1, xx.six.2.2.2.2.1, xx.six.2.2.2.2.2.1⟩, fun hS => ?_⟩
          (try simp only [Act.put, List.setIfInBounds_toArray, List.set_cons_zero, List.set_cons_succ])
          (refine tk 4 hS ?_; (try simp only [Act.put, List.setIfInBounds_toArray, List.set_cons_zero, List.set_cons_succ]))
          clear hS
          refine wpAnyH_done (by kernel_rfl) ?_ _
          go_wp2_with fail
          go_ret
          exact ⟨rfl, B30⟩
        · skip
          go_enter Try.func14, Try.ntmps14
          go_wp2_with fail
          refine (szKeys_yes kI0 kL1h.b (1048576) _ (by first | rfl | simp) (by omega) (by omega)).mono ?_
          rintro e w1 ⟨rfl, b1⟩
          have z1 := b1.size
          try simp only [World.size_alloc, World.size_setCell, size_drew] at z1
          have B1 : Below w.heap.size w w1 := Below.t b1
          have pk_ : Box w1 (w.heap.size) #[.int .i64 kI0, (.slice kA1 kn1 kc1)] 30 := ((((Box.new (g := w.heap.size) _ #[.int .i64 kI0, (.slice kA1 kn1 kc1)] 30 (by simp)).alloc _).alloc _).alloc _).below b1 (by first | omega | (simp [size_drew]; done) | (simp [size_drew]; omega))
          have pk := pk_; clear pk_
          have pa_ : Box w1 (w.heap.size + 1) #[(.slice aA0 an0 ac0), (.slice aA1 an1 ac1)] 44 := (((Box.new (g := w.heap.size + 1) _ #[(.slice aA0 an0 ac0), (.slice aA1 an1 ac1)] 44 (by simp)).alloc _).alloc _).below b1 (by first | omega | (simp [size_drew]; done) | (simp [size_drew]; omega))
          have pa := pa_; clear pa_
          have pb_ : Box w1 (w.heap.size + 1 + 1) #[(.slice bA0 bn0 bc0), (.slice bA1 bn1 bc1)] 44 := ((Box.new (g := w.heap.size + 1 + 1) _ #[(.slice bA0 bn0 bc0), (.slice bA1 bn1 bc1)] 44 (by simp)).alloc _).below b1 (by first | omega | (simp [size_drew]; done) | (simp [size_drew]; omega))
          have pb := pb_; clear pb_
          have px_ : Box w1 (w.heap.size + 1 + 1 + 1) #[(.slice xA0 xn0 xc0), (.slice xA1 xn1 xc1), (.slice xA2 xn2 xc2), (.slice xA3 xn3 xc3), (.slice xA4 xn4 xc4), (.slice xA5 xn5 xc5)] 64 := (Box.new (g := w.heap.size + 1 + 1 + 1) _ #[(.slice xA0 xn0 xc0), (.slice xA1 xn1 xc1), (.slice xA2 xn2 xc2), (.slice xA3 xn3 xc3), (.slice xA4 xn4 xc4), (.slice xA5 xn5 xc5)] 64 (by simp)).below b1 (by first | omega | (simp [size_drew]; done) | (simp [size_drew]; omega))
          have px := px_; clear px_
          obtain ⟨cpa_0, cpa_1, fpa_0, fpa_1⟩ := pa.two
          have l_pa_0 : w.heap.size + 1 < w1.heap.size := by omega
          go_wp2_with fail
          refine (szAuth_yes aL0h.b aL1h.b (1048576 - (kL1.length)) _ (by first | rfl | simp) (by omega) (by omega)).mono ?_
          rintro e w2 ⟨rfl, b2⟩
          clear cpa_0 cpa_1 fpa_0 fpa_1 l_pa_0
          have z2 := b2.size
          try simp only [World.size_alloc, World.size_setCell, size_drew] at z2
          have B2 : Below w.heap.size w w2 := Below.t b2
          have pk_ : Box w2 (w.heap.size) #[.int .i64 kI0, (.slice kA1 kn1 kc1)] 30 := pk.below b2 (by first | omega | (simp [size_drew]; done) | (simp [size_drew]; omega))
          clear pk; have pk := pk_; clear pk_
          have pa_ : Box w2 (w.heap.size + 1) #[(.slice aA0 an0 ac0), (.slice aA1 an1 ac1)] 44 := pa.below b2 (by first | omega | (simp [size_drew]; done) | (simp [size_drew]; omega))
          clear pa; have pa := pa_; clear pa_
          have pb_ : Box w2 (w.heap.size + 1 + 1) #[(.slice bA0 bn0 bc0), (.slice bA1 bn1 bc1)] 44 := pb.below b2 (by first | omega | (simp [size_drew]; done) | (simp [size_drew]; omega))
          clear pb; have pb := pb_; clear pb_
          have px_ : Box w2 (w.heap.size + 1 + 1 + 1) #[(.slice xA0 xn0 xc0), (.slice xA1 xn1 xc1), (.slice xA2 xn2 xc2), (.slice xA3 xn3 xc3), (.slice xA4 xn4 xc4), (.slice xA5 xn5 xc5)] 64 := px.below b2 (by first | omega | (simp [size_drew]; done) | (simp [size_drew]; omega))
          clear px; have px := px_; clear px_
          obtain ⟨cpb_0, cpb_1, fpb_0, fpb_1⟩ := pb.two
          have l_pb_0 : w.heap.size + 1 + 1 < w2.heap.size := by omega
          go_wp2_with fail
          refine (szAuth_yes bL0h.b bL1h.b (1048576 - (kL1.length) - (aL0.length + aL1.length)) _ (by first | rfl | simp) (by omega) (by omega)).mono ?_
          rintro e w3 ⟨rfl, b3⟩
          clear cpb_0 cpb_1 fpb_0 fpb_1 l_pb_0
          have z3 := b3.size
          try simp only [World.size_alloc, World.size_setCell, size_drew] at z3
          have B3 : Below w.heap.size w w3 := Below.t b3
          have pk_ : Box w3 (w.heap.size) #[.int .i64 kI0, (.slice kA1 kn1 kc1)] 30 := pk.below b3 (by first | omega | (simp [size_drew]; done) | (simp [size_drew]; omega))
          clear pk; have pk := pk_; clear pk_
          have pa_ : Box w3 (w.heap.size + 1) #[(.slice aA0 an0 ac0), (.slice aA1 an1 ac1)] 44 := pa.below b3 (by first | omega | (simp [size_drew]; done) | (simp [size_drew]; omega))
          clear pa; have pa := pa_; clear pa_
          have pb_ : Box w3 (w.heap.size + 1 + 1) #[(.slice bA0 bn0 bc0), (.slice bA1 bn1 bc1)] 44 := pb.below b3 (by first | omega | (simp [size_drew]; done) | (simp [size_drew]; omega))
          clear pb; have pb := pb_; clear pb_
          have px_ : Box w3 (w.heap.size + 1 + 1 + 1) #[(.slice xA0 xn0 xc0), (.slice xA1 xn1 xc1), (.slice xA2 xn2 xc2), (.slice xA3 xn3 xc3), (.slice xA4 xn4 xc4), (.slice xA5 xn5 xc5)] 64 := px.below b3 (by first | omega | (simp [size_drew]; done) | (simp [size_drew]; omega))
          clear px; have px := px_; clear px_
          obtain ⟨cpx_0, cpx_1, cpx_2, cpx_3, cpx_4, cpx_5, fpx_0, fpx_1, fpx_2, fpx_3, fpx_4, fpx_5⟩ := px.six
          have l_px_0 : w.heap.size + 1 + 1 + 1 < w3.heap.size := by omega
          go_wp2_with fail
          refine (szTriple_no xL0h.b xL1h.b xL2h.b xL3h.b xL4h.b xL5h.b (1048576 - (kL1.length) - (aL0.length + aL1.length) - (bL0.length + bL1.length)) _ (by first | rfl | simp) (by omega) (by omega)).mono ?_
          rintro e w4 ⟨rfl, b4⟩
          clear cpx_0 cpx_1 cpx_2 cpx_3 cpx_4 cpx_5 fpx_0 fpx_1 fpx_2 fpx_3 fpx_4 fpx_5 l_px_0
          have z4 := b4.size
          try simp only [World.size_alloc, World.size_setCell, size_drew] at z4
          have B4 : Below w.heap.size w w4 := Below.t b4
          have pk_ : Box w4 (w.heap.size) #[.int .i64 kI0, (.slice kA1 kn1 kc1)] 30 := pk.below b4 (by first | omega | (simp [size_drew]; done) | (simp [size_drew]; omega))
          clear pk; have pk := pk_; clear pk_
          have pa_ : Box w4 (w.heap.size + 1) #[(.slice aA0 an0 ac0), (.slice aA1 an1 ac1)] 44 := pa.below b4 (by first | omega | (simp [size_drew]; done) | (simp [size_drew]; omega))
          clear pa; have pa := pa_; clear pa_
          have pb_ : Box w4 (w.heap.size + 1 + 1) #[(.slice bA0 bn0 bc0), (.slice bA1 bn1 bc1)] 44 := pb.below b4 (by first | omega | (simp [size_drew]; done) | (simp [size_drew]; omega))
          clear pb; have pb := pb_; clear pb_
          have px_ : Box w4 (w.heap.size + 1 + 1 + 1) #[(.slice xA0 xn0 xc0), (.slice xA1 xn1 xc1), (.slice xA2 xn2 xc2), (.slice xA3 xn3 xc3), (.slice xA4 xn4 xc4), (.slice xA5 xn5 xc5)] 64 := px.below b4 (by first | omega | (simp [size_drew]; done) | (simp [size_drew]; omega))
          clear px; have px := px_; clear px_
          go_wp2
          go_ret
          exact ⟨rfl, B4⟩
      · skip
        go_enter Try.func14, Try.ntmps14
        go_wp2_with fail
        refine (szKeys_yes kI0 kL1h.b (1048576) _ (by first | rfl | simp) (by omega) (by omega)).mono ?_
        rintro e w1 ⟨rfl, b1⟩
        have z1 := b1.size
        try simp only [World.size_alloc, World.size_setCell, size_drew] at z1
        have B1 : Below w.heap.size w w1 := Below.t b1
        have pk_ : Box w1 (w.heap.size) #[.int .i64 kI0, (.slice kA1 kn1 kc1)] 30 := ((((Box.new (g := w.heap.size) _ #[.int .i64 kI0, (.slice kA1 kn1 kc1)] 30 (by simp)).alloc _).alloc _).alloc _).below b1 (by first | omega | (simp [size_drew]; done) | (simp [size_drew]; omega))
        have pk := pk_; clear pk_
        have pa_ : Box w1 (w.heap.size + 1) #[(.slice aA0 an0 ac0), (.slice aA1 an1 ac1)] 44 := (((Box.new (g := w.heap.size + 1) _ #[(.slice aA0 an0 ac0), (.slice aA1 an1 ac1)] 44 (by simp)).alloc _).alloc _).below b1 (by first | omega | (simp [size_drew]; done) | (simp [size_drew]; omega))
        have pa := pa_; clear pa_
        have pb_ : Box w1 (w.heap.size + 1 + 1) #[(.slice bA0 bn0 bc0), (.slice bA1 bn1 bc1)] 44 := ((Box.new (g := w.heap.size + 1 + 1) _ #[(.slice bA0 bn0 bc0), (.slice bA1 bn1 bc1)] 44 (by simp)).alloc _).below b1 (by first | omega | (simp [size_drew]; done) | (simp [size_drew]; omega))
        have pb := pb_; clear pb_
        have px_ : Box w1 (w.heap.size + 1 + 1 + 1) #[(.slice xA0 xn0 xc0), (.slice xA1 xn1 xc1), (.slice xA2 xn2 xc2), (.slice xA3 xn3 xc3), (.slice xA4 xn4 xc4), (.slice xA5 xn5 xc5)] 64 := (Box.new (g := w.heap.size + 1 + 1 + 1) _ #[(.slice xA0 xn0 xc0), (.slice xA1 xn1 xc1), (.slice xA2 xn2 xc2), (.slice xA3 xn3 xc3), (.slice xA4 xn4 xc4), (.slice xA5 xn5 xc5)] 64 (by simp)).below b1 (by first | omega | (simp [size_drew]; done) | (simp [size_drew]; omega))
        have px := px_; clear px_
        obtain ⟨cpa_0, cpa_1, fpa_0, fpa_1⟩ := pa.two
        have l_pa_0 : w.heap.size + 1 < w1.heap.size := by omega
        go_wp2_with fail
        refine (szAuth_yes aL0h.b aL1h.b (1048576 - (kL1.length)) _ (by first | rfl | simp) (by omega) (by omega)).mono ?_
        rintro e w2 ⟨rfl, b2⟩
        clear cpa_0 cpa_1 fpa_0 fpa_1 l_pa_0
        have z2 := b2.size
        try simp only [World.size_alloc, World.size_setCell, size_drew] at z2
        have B2 : Below w.heap.size w w2 := Below.t b2
        have pk_ : Box w2 (w.heap.size) #[.int .i64 kI0, (.slice kA1 kn1 kc1)] 30 := pk.below b2 (by first | omega | (simp [size_drew]; done) | (simp [size_drew]; omega))
        clear pk; have pk := pk_; clear pk_
        have pa_ : Box w2 (w.heap.size + 1) #[(.slice aA0 an0 ac0), (.slice aA1 an1 ac1)] 44 := pa.below b2 (by first | omega | (simp [size_drew]; done) | (simp [size_drew]; omega))
        clear pa; have pa := pa_; clear pa_
        have pb_ : Box w2 (w.heap.size + 1 + 1) #[(.slice bA0 bn0 bc0), (.slice bA1 bn1 bc1)] 44 := pb.below b2 (by first | omega | (simp [size_drew]; done) | (simp [size_drew]; omega))
        clear pb; have pb := pb_; clear pb_
        have px_ : Box w2 (w.heap.size + 1 + 1 + 1) #[(.slice xA0 xn0 xc0), (.slice xA1 xn1 xc1), (.slice xA2 xn2 xc2), (.slice xA3 xn3 xc3), (.slice xA4 xn4 xc4), (.slice xA5 xn5 xc5)] 64 := px.below b2 (by first | omega | (simp [size_drew]; done) | (simp [size_drew]; omega))
        clear px; have px := px_; clear px_
        obtain ⟨cpb_0, cpb_1, fpb_0, fpb_1⟩ := pb.two
        have l_pb_0 : w.heap.size + 1 + 1 < w2.heap.size := by omega
        go_wp2_with fail
        refine (szAuth_no bL0h.b bL1h.b (1048576 - (kL1.length) - (aL0.length + aL1.length)) _ (by first | rfl | simp) (by omega) (by omega)).mono ?_
        rintro e w3 ⟨rfl, b3⟩
        clear cpb_0 cpb_1 fpb_0 fpb_1 l_pb_0
        have z3 := b3.size
        try simp only [World.size_alloc, World.size_setCell, size_drew] at z3
        have B3 : Below w.heap.size w w3 := Below.t b3
        have pk_ : Box w3 (w.heap.size) #[.int .i64 kI0, (.slice kA1 kn1 kc1)] 30 := pk.below b3 (by first | omega | (simp [size_drew]; done) | (simp [size_drew]; omega))
        clear pk; have pk := pk_; clear pk_
        have pa_ : Box w3 (w.heap.size + 1) #[(.slice aA0 an0 ac0), (.slice aA1 an1 ac1)] 44 := pa.below b3 (by first | omega | (simp [size_drew]; done) | (simp [size_drew]; omega))
        clear pa; have pa := pa_; clear pa_
        have pb_ : Box w3 (w.heap.size + 1 + 1) #[(.slice bA0 bn0 bc0), (.slice bA1 bn1 bc1)] 44 := pb.below b3 (by first | omega | (simp [size_drew]; done) | (simp [size_drew]; omega))
        clear pb; have pb := pb_; clear pb_
        have px_ : Box w3 (w.heap.size + 1 + 1 + 1) #[(.slice xA0 xn0 xc0), (.slice xA1 xn1 xc1), (.slice xA2 xn2 xc2), (.slice xA3 xn3 xc3), (.slice xA4 xn4 xc4), (.slice xA5 xn5 xc5)] 64 := px.below b3 (by first | omega | (simp [size_drew]; done) | (simp [size_drew]; omega))
        clear px; have px := px_; clear px_
        go_wp2
        go_ret
        exact ⟨rfl, B3⟩
    · skip
      go_enter Try.func14, Try.ntmps14
      go_wp2_with fail
      refine (szKeys_yes kI0 kL1h.b (1048576) _ (by first | rfl | simp) (by omega) (by omega)).mono ?_
      rintro e w1 ⟨rfl, b1⟩
      have z1 := b1.size
      try simp only [World.size_alloc, World.size_setCell, size_drew] at z1
      have B1 : Below w.heap.size w w1 := Below.t b1
      have pk_ : Box w1 (w.heap.size) #[.int .i64 kI0, (.slice kA1 kn1 kc1)] 30 := ((((Box.new (g := w.heap.size) _ #[.int .i64 kI0, (.slice kA1 kn1 kc1)] 30 (by simp)).alloc _).alloc _).alloc _).below b1 (by first | omega | (simp [size_drew]; done) | (simp [size_drew]; omega))
      have pk := pk_; clear pk_
      have pa_ : Box w1 (w.heap.size + 1) #[(.slice aA0 an0 ac0), (.slice aA1 an1 ac1)] 44 := (((Box.new (g := w.heap.size + 1) _ #[(.slice aA0 an0 ac0), (.slice aA1 an1 ac1)] 44 (by simp)).alloc _).alloc _).below b1 (by first | omega | (simp [size_drew]; done) | (simp [size_drew]; omega))
      have pa := pa_; clear pa_
      have pb_ : Box w1 (w.heap.size + 1 + 1) #[(.slice bA0 bn0 bc0), (.slice bA1 bn1 bc1)] 44 := ((Box.new (g := w.heap.size + 1 + 1) _ #[(.slice bA0 bn0 bc0), (.slice bA1 bn1 bc1)] 44 (by simp)).alloc _).below b1 (by first | omega | (simp [size_drew]; done) | (simp [size_drew]; omega))
      have pb := pb_; clear pb_
      have px_ : Box w1 (w.heap.size + 1 + 1 + 1) #[(.slice xA0 xn0 xc0), (.slice xA1 xn1 xc1), (.slice xA2 xn2 xc2), (.slice xA3 xn3 xc3), (.slice xA4 xn4 xc4), (.slice xA5 xn5 xc5)] 64 := (Box.new (g := w.heap.size + 1 + 1 + 1) _ #[(.slice xA0 xn0 xc0), (.slice xA1 xn1 xc1), (.slice xA2 xn2 xc2), (.slice xA3 xn3 xc3), (.slice xA4 xn4 xc4), (.slice xA5 xn5 xc5)] 64 (by simp)).below b1 (by first | omega | (simp [size_drew]; done) | (simp [size_drew]; omega))
      have px := px_; clear px_
      obtain ⟨cpa_0, cpa_1, fpa_0, fpa_1⟩ := pa.two
      have l_pa_0 : w.heap.size + 1 < w1.heap.size := by omega
      go_wp2_with fail
      refine (szAuth_no aL0h.b aL1h.b (1048576 - (kL1.length)) _ (by first | rfl | simp) (by omega) (by omega)).mono ?_
      rintro e w2 ⟨rfl, b2⟩
      clear cpa_0 cpa_1 fpa_0 fpa_1 l_pa_0
      have z2 := b2.size
      try simp only [World.size_alloc, World.size_setCell, size_drew] at z2
      have B2 : Below w.heap.size w w2 := Below.t b2
      have pk_ : Box w2 (w.heap.size) #[.int .i64 kI0, (.slice kA1 kn1 kc1)] 30 := pk.below b2 (by first | omega | (simp [size_drew]; done) | (simp [size_drew]; omega))
      clear pk; have pk := pk_; clear pk_
      have pa_ : Box w2 (w.heap.size + 1) #[(.slice aA0 an0 ac0), (.slice aA1 an1 ac1)] 44 := pa.below b2 (by first | omega | (simp [size_drew]; done) | (simp [size_drew]; omega))
      clear pa; have pa := pa_; clear pa_
      have pb_ : Box w2 (w.heap.size + 1 + 1) #[(.slice bA0 bn0 bc0), (.slice bA1 bn1 bc1)] 44 := pb.below b2 (by first | omega | (simp [size_drew]; done) | (simp [size_drew]; omega))
      clear pb; have pb := pb_; clear pb_
      have px_ : Box w2 (w.heap.size + 1 + 1 + 1) #[(.slice xA0 xn0 xc0), (.slice xA1 xn1 xc1), (.slice xA2 xn2 xc2), (.slice xA3 xn3 xc3), (.slice xA4 xn4 xc4), (.slice xA5 xn5 xc5)] 64 := px.below b2 (by first | omega | (simp [size_drew]; done) | (simp [size_drew]; omega))
      clear px; have px := px_; clear px_
      go_wp2
      go_ret
      exact ⟨rfl, B2⟩
  · skip
    go_enter Try.func14, Try.ntmps14
    go_wp2_with fail
    refine (szKeys_no kI0 kL1h.b (1048576) _ (by first | rfl | simp) (by omega) (by omega)).mono ?_
    rintro e w1 ⟨rfl, b1⟩
    have z1 := b1.size
    try simp only [World.size_alloc, World.size_setCell, size_drew] at z1
    have B1 : Below w.heap.size w w1 := Below.t b1
    have pk_ : Box w1 (w.heap.size) #[.int .i64 kI0, (.slice kA1 kn1 kc1)] 30 := ((((Box.new (g := w.heap.size) _ #[.int .i64 kI0, (.slice kA1 kn1 kc1)] 30 (by simp)).alloc _).alloc _).alloc _).below b1 (by first | omega | (simp [size_drew]; done) | (simp [size_drew]; omega))
    have pk := pk_; clear pk_
    have pa_ : Box w1 (w.heap.size + 1) #[(.slice aA0 an0 ac0), (.slice aA1 an1 ac1)] 44 := (((Box.new (g := w.heap.size + 1) _ #[(.slice aA0 an0 ac0), (.slice aA1 an1 ac1)] 44 (by simp)).alloc _).alloc _).below b1 (by first | omega | (simp [size_drew]; done) | (simp [size_drew]; omega))
    have pa := pa_; clear pa_
    have pb_ : Box w1 (w.heap.size + 1 + 1) #[(.slice bA0 bn0 bc0), (.slice bA1 bn1 bc1)] 44 := ((Box.new (g := w.heap.size + 1 + 1) _ #[(.slice bA0 bn0 bc0), (.slice bA1 bn1 bc1)] 44 (by simp)).alloc _).below b1 (by first | omega | (simp [size_drew]; done) | (simp [size_drew]; omega))
    have pb := pb_; clear pb_
    have px_ : Box w1 (w.heap.size + 1 + 1 + 1) #[(.slice xA0 xn0 xc0), (.slice xA1 xn1 xc1), (.slice xA2 xn2 xc2), (.slice xA3 xn3 xc3), (.slice xA4 xn4 xc4), (.slice xA5 xn5 xc5)] 64 := (Box.new (g := w.heap.size + 1 + 1 + 1) _ #[(.slice xA0 xn0 xc0), (.slice xA1 xn1 xc1), (.slice xA2 xn2 xc2), (.slice xA3 xn3 xc3), (.slice xA4 xn4 xc4), (.slice xA5 xn5 xc5)] 64 (by simp)).below b1 (by first | omega | (simp [size_drew]; done) | (simp [size_drew]; omega))
    have px := px_; clear px_
    go_wp2
    go_ret
    exact ⟨rfl, B1⟩
end Go.Proofs.Ytllnnbmgdbinnaa

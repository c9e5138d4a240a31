/- The walk of the law FnExactAuthAdd. Printed by laws2.py. -/
import Derived.Test.YtllnnbmgdbinnaaMac3
import Derived.Test.YtllnnbmgdbinnaaHk
import Derived.Test.YtllnnbmgdbinnaaReg
import Derived.Test.YtllnnbmgdbinnaaRegA
namespace Go.Proofs.Ytllnnbmgdbinnaa
set_option linter.unusedSimpArgs false
set_option linter.unusedVariables false
open Go.RowKit
set_option maxRecDepth 100000 in
set_option maxHeartbeats 2000000 in
theorem walk_FnExactAuthAdd (kI0 : Int) (kL1V : Value) (kL1 : List Int) (aL0V : Value) (aL0 : List Int) (aL1V : Value) (aL1 : List Int) (bL0V : Value) (bL0 : List Int) (bL1V : Value) (bL1 : List Int) (w : World) (kL1h : Rd0 w kL1V kL1) (aL0h : Rd0 w aL0V aL0) (aL1h : Rd0 w aL1V aL1) (bL0h : Rd0 w bL0V bL0) (bL1h : Rd0 w bL1V bL1) :
    Calls Try.prog 12 #[.agg #[.int .i64 kI0, kL1V], .agg #[aL0V, aL1V], .agg #[bL0V, bL1V]] w fun e w' => e = .returned (.bool true) ∧ Below w.heap.size w w' := by
  obtain ⟨kA1, kn1, kc1, rfl, kL1x, kL1I⟩ := kL1h
  have kL1h : Rd0 w (.slice kA1 kn1 kc1) kL1 := ⟨_, _, _, rfl, kL1x, kL1I⟩
  obtain ⟨aA0, an0, ac0, rfl, aL0x, aL0I⟩ := aL0h
  have aL0h : Rd0 w (.slice aA0 an0 ac0) aL0 := ⟨_, _, _, rfl, aL0x, aL0I⟩
  obtain ⟨aA1, an1, ac1, rfl, aL1x, aL1I⟩ := aL1h
  have aL1h : Rd0 w (.slice aA1 an1 ac1) aL1 := ⟨_, _, _, rfl, aL1x, aL1I⟩
  obtain ⟨bA0, bn0, bc0, rfl, bL0x, bL0I⟩ := bL0h
  have bL0h : Rd0 w (.slice bA0 bn0 bc0) bL0 := ⟨_, _, _, rfl, bL0x, bL0I⟩
  obtain ⟨bA1, bn1, bc1, rfl, bL1x, bL1I⟩ := bL1h
  have bL1h : Rd0 w (.slice bA1 bn1 bc1) bL1 := ⟨_, _, _, rfl, bL1x, bL1I⟩
  by_cases sz0 : (kL1.length) ≤ 1048576
  · skip
    by_cases sz1 : (kL1.length) + (aL0.length + aL1.length) ≤ 1048576
    · skip
      by_cases sz2 : (kL1.length) + (aL0.length + aL1.length) + (bL0.length + bL1.length) ≤ 1048576
      · skip
        have kL1n : kL1.length ≤ 1048576 := by omega
        have aL0n : aL0.length ≤ 1048576 := by omega
        have aL1n : aL1.length ≤ 1048576 := by omega
        have bL0n : bL0.length ≤ 1048576 := by omega
        have bL1n : bL1.length ≤ 1048576 := by omega
        have rL0_0n : (aAddS kI0 kL1 aL0 aL1 bL0 bL1).length ≤ 1048576 := Nat.le_trans aAddS_len aL0n
        have rL0_1n : (aAddM kI0 kL1 aL0 aL1 bL0 bL1).length ≤ 1048576 := Nat.le_trans aAddM_len aL1n
        go_enter Try.func12, Try.ntmps12
        go_wp2_with fail
        refine (szKeys_yes kI0 (kL1h.below (by repeat (with_reducible (first | assumption | exact Below.refl _ _ | refine Below.alloc ?_ (by first | omega | (simp; done) | (simp; omega)) _ | refine Below.setCell ?_ (by first | omega | (simp; done) | (simp; omega)) _ | refine Below.drew ?_ | refine below_drewN ?_ _)))) (1048576) _ (by first | rfl | simp) (by omega) (by omega)).mono ?_
        rintro e w1 ⟨rfl, b1⟩
        have z1 := b1.size
        try simp only [World.size_alloc, World.size_setCell, size_drew] at z1
        have B1 : Below w.heap.size w w1 := Below.trans (b := _) (by repeat (with_reducible (first | assumption | exact Below.refl _ _ | refine Below.alloc ?_ (by first | omega | (simp; done) | (simp; omega)) _ | refine Below.setCell ?_ (by first | omega | (simp; done) | (simp; omega)) _ | refine Below.drew ?_ | refine below_drewN ?_ _))) (b1.mono (by first | omega | (simp [size_drew]; done) | (simp [size_drew]; omega)))
        have pk_ : Box w1 (w.heap.size) #[.int .i64 kI0, (.slice kA1 kn1 kc1)] 30 := (((Box.new (g := w.heap.size) _ #[.int .i64 kI0, (.slice kA1 kn1 kc1)] 30 (by simp)).alloc _).alloc _).below b1 (by first | omega | (simp [size_drew]; done) | (simp [size_drew]; omega))
        have pk := pk_; clear pk_
        have pa_ : Box w1 (w.heap.size + 1) #[(.slice aA0 an0 ac0), (.slice aA1 an1 ac1)] 44 := ((Box.new (g := w.heap.size + 1) _ #[(.slice aA0 an0 ac0), (.slice aA1 an1 ac1)] 44 (by simp)).alloc _).below b1 (by first | omega | (simp [size_drew]; done) | (simp [size_drew]; omega))
        have pa := pa_; clear pa_
        have pb_ : Box w1 (w.heap.size + 1 + 1) #[(.slice bA0 bn0 bc0), (.slice bA1 bn1 bc1)] 44 := (Box.new (g := w.heap.size + 1 + 1) _ #[(.slice bA0 bn0 bc0), (.slice bA1 bn1 bc1)] 44 (by simp)).below b1 (by first | omega | (simp [size_drew]; done) | (simp [size_drew]; omega))
        have pb := pb_; clear pb_
        obtain ⟨cpa_0, cpa_1, fpa_0, fpa_1⟩ := pa.two
        have l_pa_0 : w.heap.size + 1 < w1.heap.size := by omega
        go_wp2_with fail
        refine (szAuth_yes (aL0h.below (by repeat (with_reducible (first | assumption | exact Below.refl _ _ | refine Below.alloc ?_ (by first | omega | (simp; done) | (simp; omega)) _ | refine Below.setCell ?_ (by first | omega | (simp; done) | (simp; omega)) _ | refine Below.drew ?_ | refine below_drewN ?_ _)))) (aL1h.below (by repeat (with_reducible (first | assumption | exact Below.refl _ _ | refine Below.alloc ?_ (by first | omega | (simp; done) | (simp; omega)) _ | refine Below.setCell ?_ (by first | omega | (simp; done) | (simp; omega)) _ | refine Below.drew ?_ | refine below_drewN ?_ _)))) (1048576 - (kL1.length)) _ (by first | rfl | simp) (by omega) (by omega)).mono ?_
        rintro e w2 ⟨rfl, b2⟩
        clear cpa_0 cpa_1 fpa_0 fpa_1 l_pa_0
        have z2 := b2.size
        try simp only [World.size_alloc, World.size_setCell, size_drew] at z2
        have B2 : Below w.heap.size w w2 := Below.trans (b := _) (by repeat (with_reducible (first | assumption | exact Below.refl _ _ | refine Below.alloc ?_ (by first | omega | (simp; done) | (simp; omega)) _ | refine Below.setCell ?_ (by first | omega | (simp; done) | (simp; omega)) _ | refine Below.drew ?_ | refine below_drewN ?_ _))) (b2.mono (by first | omega | (simp [size_drew]; done) | (simp [size_drew]; omega)))
        have pk_ : Box w2 (w.heap.size) #[.int .i64 kI0, (.slice kA1 kn1 kc1)] 30 := pk.below b2 (by first | omega | (simp [size_drew]; done) | (simp [size_drew]; omega))
        clear pk; have pk := pk_; clear pk_
        have pa_ : Box w2 (w.heap.size + 1) #[(.slice aA0 an0 ac0), (.slice aA1 an1 ac1)] 44 := pa.below b2 (by first | omega | (simp [size_drew]; done) | (simp [size_drew]; omega))
        clear pa; have pa := pa_; clear pa_
        have pb_ : Box w2 (w.heap.size + 1 + 1) #[(.slice bA0 bn0 bc0), (.slice bA1 bn1 bc1)] 44 := pb.below b2 (by first | omega | (simp [size_drew]; done) | (simp [size_drew]; omega))
        clear pb; have pb := pb_; clear pb_
        obtain ⟨cpb_0, cpb_1, fpb_0, fpb_1⟩ := pb.two
        have l_pb_0 : w.heap.size + 1 + 1 < w2.heap.size := by omega
        go_wp2_with fail
        refine (szAuth_yes (bL0h.below (by repeat (with_reducible (first | assumption | exact Below.refl _ _ | refine Below.alloc ?_ (by first | omega | (simp; done) | (simp; omega)) _ | refine Below.setCell ?_ (by first | omega | (simp; done) | (simp; omega)) _ | refine Below.drew ?_ | refine below_drewN ?_ _)))) (bL1h.below (by repeat (with_reducible (first | assumption | exact Below.refl _ _ | refine Below.alloc ?_ (by first | omega | (simp; done) | (simp; omega)) _ | refine Below.setCell ?_ (by first | omega | (simp; done) | (simp; omega)) _ | refine Below.drew ?_ | refine below_drewN ?_ _)))) (1048576 - (kL1.length) - (aL0.length + aL1.length)) _ (by first | rfl | simp) (by omega) (by omega)).mono ?_
        rintro e w3 ⟨rfl, b3⟩
        clear cpb_0 cpb_1 fpb_0 fpb_1 l_pb_0
        have z3 := b3.size
        try simp only [World.size_alloc, World.size_setCell, size_drew] at z3
        have B3 : Below w.heap.size w w3 := Below.trans (b := _) (by repeat (with_reducible (first | assumption | exact Below.refl _ _ | refine Below.alloc ?_ (by first | omega | (simp; done) | (simp; omega)) _ | refine Below.setCell ?_ (by first | omega | (simp; done) | (simp; omega)) _ | refine Below.drew ?_ | refine below_drewN ?_ _))) (b3.mono (by first | omega | (simp [size_drew]; done) | (simp [size_drew]; omega)))
        have pk_ : Box w3 (w.heap.size) #[.int .i64 kI0, (.slice kA1 kn1 kc1)] 30 := pk.below b3 (by first | omega | (simp [size_drew]; done) | (simp [size_drew]; omega))
        clear pk; have pk := pk_; clear pk_
        have pa_ : Box w3 (w.heap.size + 1) #[(.slice aA0 an0 ac0), (.slice aA1 an1 ac1)] 44 := pa.below b3 (by first | omega | (simp [size_drew]; done) | (simp [size_drew]; omega))
        clear pa; have pa := pa_; clear pa_
        have pb_ : Box w3 (w.heap.size + 1 + 1) #[(.slice bA0 bn0 bc0), (.slice bA1 bn1 bc1)] 44 := pb.below b3 (by first | omega | (simp [size_drew]; done) | (simp [size_drew]; omega))
        clear pb; have pb := pb_; clear pb_
        obtain ⟨cpk_0, cpk_1, fpk_0, fpk_1⟩ := pk.two
        have l_pk_0 : w.heap.size < w3.heap.size := by omega
        obtain ⟨cpa_0, cpa_1, fpa_0, fpa_1⟩ := pa.two
        have l_pa_0 : w.heap.size + 1 < w3.heap.size := by omega
        obtain ⟨cpb_0, cpb_1, fpb_0, fpb_1⟩ := pb.two
        have l_pb_0 : w.heap.size + 1 + 1 < w3.heap.size := by omega
        go_wp2_with fail
        clear cpk_0 cpk_1 fpk_0 fpk_1 l_pk_0 cpa_0 cpa_1 fpa_0 fpa_1 l_pa_0 cpb_0 cpb_1 fpb_0 fpb_1 l_pb_0
        refine wp_region_M [8] (w3.heap.size) 9 (S := fun W => Below w.heap.size w W ∧ Below w3.heap.size w3 W ∧ W.cell? ⟨w.heap.size, 0, none⟩ = some (.int .i64 kI0) ∧ W.cell? ⟨w.heap.size, 1, none⟩ = some ((.slice kA1 kn1 kc1)) ∧ W.cell? ⟨w.heap.size + 1, 0, none⟩ = some ((.slice aA0 an0 ac0)) ∧ W.cell? ⟨w.heap.size + 1, 1, none⟩ = some ((.slice aA1 an1 ac1)) ∧ W.cell? ⟨w.heap.size + 1 + 1, 0, none⟩ = some ((.slice bA0 bn0 bc0)) ∧ W.cell? ⟨w.heap.size + 1 + 1, 1, none⟩ = some ((.slice bA1 bn1 bc1))) (by kernel_rfl) (by rfl) (fun W hW => ⟨Below.trans (b := _) (by repeat (with_reducible (first | assumption | exact Below.refl _ _ | refine Below.alloc ?_ (by first | omega | (simp; done) | (simp; omega)) _ | refine Below.setCell ?_ (by first | omega | (simp; done) | (simp; omega)) _ | refine Below.drew ?_ | refine below_drewN ?_ _))) (Below.mono hW (by first | omega | (simp [size_drew]; done) | (simp [size_drew]; omega))), Below.trans (b := _) (by repeat (with_reducible (first | assumption | exact Below.refl _ _ | refine Below.alloc ?_ (by first | omega | (simp; done) | (simp; omega)) _ | refine Below.setCell ?_ (by first | omega | (simp; done) | (simp; omega)) _ | refine Below.drew ?_ | refine below_drewN ?_ _))) (Below.mono hW (by first | omega | (simp [size_drew]; done) | (simp [size_drew]; omega))), (Box.below pk.drew hW (by first | omega | (simp [size_drew]; done) | (simp [size_drew]; omega))).two.1, (Box.below pk.drew hW (by first | omega | (simp [size_drew]; done) | (simp [size_drew]; omega))).two.2.1, (Box.below pa.drew hW (by first | omega | (simp [size_drew]; done) | (simp [size_drew]; omega))).two.1, (Box.below pa.drew hW (by first | omega | (simp [size_drew]; done) | (simp [size_drew]; omega))).two.2.1, (Box.below pb.drew hW (by first | omega | (simp [size_drew]; done) | (simp [size_drew]; omega))).two.1, (Box.below pb.drew hW (by first | omega | (simp [size_drew]; done) | (simp [size_drew]; omega))).two.2.1⟩) (by first | omega | (simp [size_drew]; done) | (simp [size_drew]; omega)) (fun hS hG => ?_)
        (try dsimp only at hS)
        refine pendM 7 8 #[.slice none 0 0, .slice none 0 0] 38 (by simp only [List.getElem?_toArray, List.getElem?_cons_succ, List.getElem?_cons_zero] <;> rfl) (by kernel_rfl) (by exact fun _ _ _ _ h => h) (by intro a W; unfold ptr; go_simp; (first | done | rfl)) hG ?_
        (refine takeM hG (i := 0) (by simp only [List.getElem?_toArray, List.getElem?_cons_succ, List.getElem?_cons_zero] <;> rfl) (by kernel_rfl) (by exact fun _ _ _ h => h) (by rfl) (by intro W hW; have hSw := hS W hW; (try dsimp only at hSw); go_simp; (first | done | with_reducible rfl | exact ⟨rfl, rfl⟩)) ?_; (try simp only [Act.put, List.setIfInBounds_toArray, List.set_cons_zero, List.set_cons_succ]))
        (refine takeM hG (i := 2) (by simp only [List.getElem?_toArray, List.getElem?_cons_succ, List.getElem?_cons_zero] <;> rfl) (by kernel_rfl) (by exact fun _ _ _ h => h) (by rfl) (by intro W hW; have hSw := hS W hW; (try dsimp only at hSw); go_simp; (first | done | with_reducible rfl | exact ⟨rfl, rfl⟩)) ?_; (try simp only [Act.put, List.setIfInBounds_toArray, List.set_cons_zero, List.set_cons_succ]))
        (refine takeM hG (i := 4) (by simp only [List.getElem?_toArray, List.getElem?_cons_succ, List.getElem?_cons_zero] <;> rfl) (by kernel_rfl) (by exact fun _ _ _ h => h) (by rfl) (by intro W hW; have hSw := hS W hW; (try dsimp only at hSw); go_simp; (first | done | with_reducible rfl | exact ⟨rfl, rfl⟩)) ?_; (try simp only [Act.put, List.setIfInBounds_toArray, List.set_cons_zero, List.set_cons_succ]))
        refine callM hG (i := 1) (by simp only [List.getElem?_toArray, List.getElem?_cons_succ, List.getElem?_cons_zero] <;> rfl) (by kernel_rfl) (by rfl) (by rfl) (by intro W hW; have hSw := hS W hW; (try dsimp only at hSw); go_simp; (first | done | with_reducible rfl | exact ⟨rfl, rfl⟩)) ?_
        intro w4 b4
        have B4 : Below w.heap.size w w4 := (hS w4 b4).1
        have z4 := Below.size b4
        (try simp only [World.size_alloc, World.size_setCell, size_drew] at z4)
        have pk_ : Box w4 (w.heap.size) #[.int .i64 kI0, (.slice kA1 kn1 kc1)] 30 := (Box.below pk.drew b4 (by first | omega | (simp [size_drew]; done) | (simp [size_drew]; omega)))
        clear pk; have pk := pk_; clear pk_
        have pa_ : Box w4 (w.heap.size + 1) #[(.slice aA0 an0 ac0), (.slice aA1 an1 ac1)] 44 := (Box.below pa.drew b4 (by first | omega | (simp [size_drew]; done) | (simp [size_drew]; omega)))
        clear pa; have pa := pa_; clear pa_
        have pb_ : Box w4 (w.heap.size + 1 + 1) #[(.slice bA0 bn0 bc0), (.slice bA1 bn1 bc1)] 44 := (Box.below pb.drew b4 (by first | omega | (simp [size_drew]; done) | (simp [size_drew]; omega)))
        clear pb; have pb := pb_; clear pb_
        clear hS hG
        go_at_call 35
        refine (toKeys_L kI0 (RdL.cons (d := .ints kL1) (kL1h.rd.below (by repeat (with_reducible (first | assumption | exact Below.refl _ _ | refine Below.alloc ?_ (by first | omega | (simp; done) | (simp; omega)) _ | refine Below.setCell ?_ (by first | omega | (simp; done) | (simp; omega)) _ | refine Below.drew ?_ | refine below_drewN ?_ _)))) RdL.nil) kL1n).mono ?_
        rintro e w5 ⟨skA1, skn1, skc1, rfl, rsk, b5⟩
        refine ⟨_, rfl, b5, fun hG => ?_⟩
        have z5 := Below.size b5
        have B5 : Below w.heap.size w w5 := Below.trans (b := _) (by repeat (with_reducible (first | assumption | exact Below.refl _ _ | refine Below.alloc ?_ (by first | omega | (simp; done) | (simp; omega)) _ | refine Below.setCell ?_ (by first | omega | (simp; done) | (simp; omega)) _ | refine Below.drew ?_ | refine below_drewN ?_ _))) (b5.mono (by first | omega | (simp [size_drew]; done) | (simp [size_drew]; omega)))
        have pk_ : Box w5 (w.heap.size) #[.int .i64 kI0, (.slice kA1 kn1 kc1)] 30 := (Box.below pk b5 (by first | omega | (simp [size_drew]; done) | (simp [size_drew]; omega)))
        clear pk; have pk := pk_; clear pk_
        have pa_ : Box w5 (w.heap.size + 1) #[(.slice aA0 an0 ac0), (.slice aA1 an1 ac1)] 44 := (Box.below pa b5 (by first | omega | (simp [size_drew]; done) | (simp [size_drew]; omega)))
        clear pa; have pa := pa_; clear pa_
        have pb_ : Box w5 (w.heap.size + 1 + 1) #[(.slice bA0 bn0 bc0), (.slice bA1 bn1 bc1)] 44 := (Box.below pb b5 (by first | omega | (simp [size_drew]; done) | (simp [size_drew]; omega)))
        clear pb; have pb := pb_; clear pb_
        (try simp only [Act.put, List.setIfInBounds_toArray, List.set_cons_zero, List.set_cons_succ])
        have hS : ∀ W, Later w5 W → (Below w.heap.size w W ∧ Below w5.heap.size w5 W ∧ W.cell? ⟨w.heap.size, 0, none⟩ = some (.int .i64 kI0) ∧ W.cell? ⟨w.heap.size, 1, none⟩ = some ((.slice kA1 kn1 kc1)) ∧ W.cell? ⟨w.heap.size + 1, 0, none⟩ = some ((.slice aA0 an0 ac0)) ∧ W.cell? ⟨w.heap.size + 1, 1, none⟩ = some ((.slice aA1 an1 ac1)) ∧ W.cell? ⟨w.heap.size + 1 + 1, 0, none⟩ = some ((.slice bA0 bn0 bc0)) ∧ W.cell? ⟨w.heap.size + 1 + 1, 1, none⟩ = some ((.slice bA1 bn1 bc1))) := fun W hW => ⟨Below.trans (b := _) (by repeat (with_reducible (first | assumption | exact Below.refl _ _ | refine Below.alloc ?_ (by first | omega | (simp; done) | (simp; omega)) _ | refine Below.setCell ?_ (by first | omega | (simp; done) | (simp; omega)) _ | refine Below.drew ?_ | refine below_drewN ?_ _))) (Below.mono hW (by first | omega | (simp [size_drew]; done) | (simp [size_drew]; omega))), Below.trans (b := _) (by repeat (with_reducible (first | assumption | exact Below.refl _ _ | refine Below.alloc ?_ (by first | omega | (simp; done) | (simp; omega)) _ | refine Below.setCell ?_ (by first | omega | (simp; done) | (simp; omega)) _ | refine Below.drew ?_ | refine below_drewN ?_ _))) (Below.mono hW (by first | omega | (simp [size_drew]; done) | (simp [size_drew]; omega))), (Box.below pk hW (by first | omega | (simp [size_drew]; done) | (simp [size_drew]; omega))).two.1, (Box.below pk hW (by first | omega | (simp [size_drew]; done) | (simp [size_drew]; omega))).two.2.1, (Box.below pa hW (by first | omega | (simp [size_drew]; done) | (simp [size_drew]; omega))).two.1, (Box.below pa hW (by first | omega | (simp [size_drew]; done) | (simp [size_drew]; omega))).two.2.1, (Box.below pb hW (by first | omega | (simp [size_drew]; done) | (simp [size_drew]; omega))).two.1, (Box.below pb hW (by first | omega | (simp [size_drew]; done) | (simp [size_drew]; omega))).two.2.1⟩
        refine callM hG (i := 3) (by simp only [List.getElem?_toArray, List.getElem?_cons_succ, List.getElem?_cons_zero] <;> rfl) (by kernel_rfl) (by rfl) (by rfl) (by intro W hW; have hSw := hS W hW; (try dsimp only at hSw); go_simp; (first | done | with_reducible rfl | exact ⟨rfl, rfl⟩)) ?_
        intro w6 b6
        have B6 : Below w.heap.size w w6 := (hS w6 b6).1
        have z6 := Below.size b6
        (try simp only [World.size_alloc, World.size_setCell, size_drew] at z6)
        have rsk_ := (rsk.below b6)
        clear rsk; have rsk := rsk_; clear rsk_
        have pk_ : Box w6 (w.heap.size) #[.int .i64 kI0, (.slice kA1 kn1 kc1)] 30 := (Box.below pk b6 (by first | omega | (simp [size_drew]; done) | (simp [size_drew]; omega)))
        clear pk; have pk := pk_; clear pk_
        have pa_ : Box w6 (w.heap.size + 1) #[(.slice aA0 an0 ac0), (.slice aA1 an1 ac1)] 44 := (Box.below pa b6 (by first | omega | (simp [size_drew]; done) | (simp [size_drew]; omega)))
        clear pa; have pa := pa_; clear pa_
        have pb_ : Box w6 (w.heap.size + 1 + 1) #[(.slice bA0 bn0 bc0), (.slice bA1 bn1 bc1)] 44 := (Box.below pb b6 (by first | omega | (simp [size_drew]; done) | (simp [size_drew]; omega)))
        clear pb; have pb := pb_; clear pb_
        clear hS hG
        go_at_call 42
        refine (toAuth_L (RdL.cons (d := .ints aL0) (aL0h.rd.below (by repeat (with_reducible (first | assumption | exact Below.refl _ _ | refine Below.alloc ?_ (by first | omega | (simp; done) | (simp; omega)) _ | refine Below.setCell ?_ (by first | omega | (simp; done) | (simp; omega)) _ | refine Below.drew ?_ | refine below_drewN ?_ _)))) (RdL.cons (d := .ints aL1) (aL1h.rd.below (by repeat (with_reducible (first | assumption | exact Below.refl _ _ | refine Below.alloc ?_ (by first | omega | (simp; done) | (simp; omega)) _ | refine Below.setCell ?_ (by first | omega | (simp; done) | (simp; omega)) _ | refine Below.drew ?_ | refine below_drewN ?_ _)))) RdL.nil)) aL0n aL1n).mono ?_
        rintro e w7 ⟨saA0, san0, sac0, saA1, san1, sac1, rfl, rsa, b7⟩
        refine ⟨_, rfl, b7, fun hG => ?_⟩
        have z7 := Below.size b7
        have B7 : Below w.heap.size w w7 := Below.trans (b := _) (by repeat (with_reducible (first | assumption | exact Below.refl _ _ | refine Below.alloc ?_ (by first | omega | (simp; done) | (simp; omega)) _ | refine Below.setCell ?_ (by first | omega | (simp; done) | (simp; omega)) _ | refine Below.drew ?_ | refine below_drewN ?_ _))) (b7.mono (by first | omega | (simp [size_drew]; done) | (simp [size_drew]; omega)))
        have rsk_ := (rsk.below b7)
        clear rsk; have rsk := rsk_; clear rsk_
        have pk_ : Box w7 (w.heap.size) #[.int .i64 kI0, (.slice kA1 kn1 kc1)] 30 := (Box.below pk b7 (by first | omega | (simp [size_drew]; done) | (simp [size_drew]; omega)))
        clear pk; have pk := pk_; clear pk_
        have pa_ : Box w7 (w.heap.size + 1) #[(.slice aA0 an0 ac0), (.slice aA1 an1 ac1)] 44 := (Box.below pa b7 (by first | omega | (simp [size_drew]; done) | (simp [size_drew]; omega)))
        clear pa; have pa := pa_; clear pa_
        have pb_ : Box w7 (w.heap.size + 1 + 1) #[(.slice bA0 bn0 bc0), (.slice bA1 bn1 bc1)] 44 := (Box.below pb b7 (by first | omega | (simp [size_drew]; done) | (simp [size_drew]; omega)))
        clear pb; have pb := pb_; clear pb_
        (try simp only [Act.put, List.setIfInBounds_toArray, List.set_cons_zero, List.set_cons_succ])
        have hS : ∀ W, Later w7 W → (Below w.heap.size w W ∧ Below w7.heap.size w7 W ∧ W.cell? ⟨w.heap.size, 0, none⟩ = some (.int .i64 kI0) ∧ W.cell? ⟨w.heap.size, 1, none⟩ = some ((.slice kA1 kn1 kc1)) ∧ W.cell? ⟨w.heap.size + 1, 0, none⟩ = some ((.slice aA0 an0 ac0)) ∧ W.cell? ⟨w.heap.size + 1, 1, none⟩ = some ((.slice aA1 an1 ac1)) ∧ W.cell? ⟨w.heap.size + 1 + 1, 0, none⟩ = some ((.slice bA0 bn0 bc0)) ∧ W.cell? ⟨w.heap.size + 1 + 1, 1, none⟩ = some ((.slice bA1 bn1 bc1))) := fun W hW => ⟨Below.trans (b := _) (by repeat (with_reducible (first | assumption | exact Below.refl _ _ | refine Below.alloc ?_ (by first | omega | (simp; done) | (simp; omega)) _ | refine Below.setCell ?_ (by first | omega | (simp; done) | (simp; omega)) _ | refine Below.drew ?_ | refine below_drewN ?_ _))) (Below.mono hW (by first | omega | (simp [size_drew]; done) | (simp [size_drew]; omega))), Below.trans (b := _) (by repeat (with_reducible (first | assumption | exact Below.refl _ _ | refine Below.alloc ?_ (by first | omega | (simp; done) | (simp; omega)) _ | refine Below.setCell ?_ (by first | omega | (simp; done) | (simp; omega)) _ | refine Below.drew ?_ | refine below_drewN ?_ _))) (Below.mono hW (by first | omega | (simp [size_drew]; done) | (simp [size_drew]; omega))), (Box.below pk hW (by first | omega | (simp [size_drew]; done) | (simp [size_drew]; omega))).two.1, (Box.below pk hW (by first | omega | (simp [size_drew]; done) | (simp [size_drew]; omega))).two.2.1, (Box.below pa hW (by first | omega | (simp [size_drew]; done) | (simp [size_drew]; omega))).two.1, (Box.below pa hW (by first | omega | (simp [size_drew]; done) | (simp [size_drew]; omega))).two.2.1, (Box.below pb hW (by first | omega | (simp [size_drew]; done) | (simp [size_drew]; omega))).two.1, (Box.below pb hW (by first | omega | (simp [size_drew]; done) | (simp [size_drew]; omega))).two.2.1⟩
        refine callM hG (i := 5) (by simp only [List.getElem?_toArray, List.getElem?_cons_succ, List.getElem?_cons_zero] <;> rfl) (by kernel_rfl) (by rfl) (by rfl) (by intro W hW; have hSw := hS W hW; (try dsimp only at hSw); go_simp; (first | done | with_reducible rfl | exact ⟨rfl, rfl⟩)) ?_
        intro w8 b8
        have B8 : Below w.heap.size w w8 := (hS w8 b8).1
        have z8 := Below.size b8
        (try simp only [World.size_alloc, World.size_setCell, size_drew] at z8)
        have rsk_ := (rsk.below b8)
        clear rsk; have rsk := rsk_; clear rsk_
        have rsa_ := (rsa.below b8)
        clear rsa; have rsa := rsa_; clear rsa_
        have pk_ : Box w8 (w.heap.size) #[.int .i64 kI0, (.slice kA1 kn1 kc1)] 30 := (Box.below pk b8 (by first | omega | (simp [size_drew]; done) | (simp [size_drew]; omega)))
        clear pk; have pk := pk_; clear pk_
        have pa_ : Box w8 (w.heap.size + 1) #[(.slice aA0 an0 ac0), (.slice aA1 an1 ac1)] 44 := (Box.below pa b8 (by first | omega | (simp [size_drew]; done) | (simp [size_drew]; omega)))
        clear pa; have pa := pa_; clear pa_
        have pb_ : Box w8 (w.heap.size + 1 + 1) #[(.slice bA0 bn0 bc0), (.slice bA1 bn1 bc1)] 44 := (Box.below pb b8 (by first | omega | (simp [size_drew]; done) | (simp [size_drew]; omega)))
        clear pb; have pb := pb_; clear pb_
        clear hS hG
        go_at_call 42
        refine (toAuth_L (RdL.cons (d := .ints bL0) (bL0h.rd.below (by repeat (with_reducible (first | assumption | exact Below.refl _ _ | refine Below.alloc ?_ (by first | omega | (simp; done) | (simp; omega)) _ | refine Below.setCell ?_ (by first | omega | (simp; done) | (simp; omega)) _ | refine Below.drew ?_ | refine below_drewN ?_ _)))) (RdL.cons (d := .ints bL1) (bL1h.rd.below (by repeat (with_reducible (first | assumption | exact Below.refl _ _ | refine Below.alloc ?_ (by first | omega | (simp; done) | (simp; omega)) _ | refine Below.setCell ?_ (by first | omega | (simp; done) | (simp; omega)) _ | refine Below.drew ?_ | refine below_drewN ?_ _)))) RdL.nil)) bL0n bL1n).mono ?_
        rintro e w9 ⟨sbA0, sbn0, sbc0, sbA1, sbn1, sbc1, rfl, rsb, b9⟩
        refine ⟨_, rfl, b9, fun hG => ?_⟩
        have z9 := Below.size b9
        have B9 : Below w.heap.size w w9 := Below.trans (b := _) (by repeat (with_reducible (first | assumption | exact Below.refl _ _ | refine Below.alloc ?_ (by first | omega | (simp; done) | (simp; omega)) _ | refine Below.setCell ?_ (by first | omega | (simp; done) | (simp; omega)) _ | refine Below.drew ?_ | refine below_drewN ?_ _))) (b9.mono (by first | omega | (simp [size_drew]; done) | (simp [size_drew]; omega)))
        have rsk_ := (rsk.below b9)
        clear rsk; have rsk := rsk_; clear rsk_
        have rsa_ := (rsa.below b9)
        clear rsa; have rsa := rsa_; clear rsa_
        have pk_ : Box w9 (w.heap.size) #[.int .i64 kI0, (.slice kA1 kn1 kc1)] 30 := (Box.below pk b9 (by first | omega | (simp [size_drew]; done) | (simp [size_drew]; omega)))
        clear pk; have pk := pk_; clear pk_
        have pa_ : Box w9 (w.heap.size + 1) #[(.slice aA0 an0 ac0), (.slice aA1 an1 ac1)] 44 := (Box.below pa b9 (by first | omega | (simp [size_drew]; done) | (simp [size_drew]; omega)))
        clear pa; have pa := pa_; clear pa_
        have pb_ : Box w9 (w.heap.size + 1 + 1) #[(.slice bA0 bn0 bc0), (.slice bA1 bn1 bc1)] 44 := (Box.below pb b9 (by first | omega | (simp [size_drew]; done) | (simp [size_drew]; omega)))
        clear pb; have pb := pb_; clear pb_
        (try simp only [Act.put, List.setIfInBounds_toArray, List.set_cons_zero, List.set_cons_succ])
        have hS : ∀ W, Later w9 W → (Below w.heap.size w W ∧ Below w9.heap.size w9 W ∧ W.cell? ⟨w.heap.size, 0, none⟩ = some (.int .i64 kI0) ∧ W.cell? ⟨w.heap.size, 1, none⟩ = some ((.slice kA1 kn1 kc1)) ∧ W.cell? ⟨w.heap.size + 1, 0, none⟩ = some ((.slice aA0 an0 ac0)) ∧ W.cell? ⟨w.heap.size + 1, 1, none⟩ = some ((.slice aA1 an1 ac1)) ∧ W.cell? ⟨w.heap.size + 1 + 1, 0, none⟩ = some ((.slice bA0 bn0 bc0)) ∧ W.cell? ⟨w.heap.size + 1 + 1, 1, none⟩ = some ((.slice bA1 bn1 bc1))) := fun W hW => ⟨Below.trans (b := _) (by repeat (with_reducible (first | assumption | exact Below.refl _ _ | refine Below.alloc ?_ (by first | omega | (simp; done) | (simp; omega)) _ | refine Below.setCell ?_ (by first | omega | (simp; done) | (simp; omega)) _ | refine Below.drew ?_ | refine below_drewN ?_ _))) (Below.mono hW (by first | omega | (simp [size_drew]; done) | (simp [size_drew]; omega))), Below.trans (b := _) (by repeat (with_reducible (first | assumption | exact Below.refl _ _ | refine Below.alloc ?_ (by first | omega | (simp; done) | (simp; omega)) _ | refine Below.setCell ?_ (by first | omega | (simp; done) | (simp; omega)) _ | refine Below.drew ?_ | refine below_drewN ?_ _))) (Below.mono hW (by first | omega | (simp [size_drew]; done) | (simp [size_drew]; omega))), (Box.below pk hW (by first | omega | (simp [size_drew]; done) | (simp [size_drew]; omega))).two.1, (Box.below pk hW (by first | omega | (simp [size_drew]; done) | (simp [size_drew]; omega))).two.2.1, (Box.below pa hW (by first | omega | (simp [size_drew]; done) | (simp [size_drew]; omega))).two.1, (Box.below pa hW (by first | omega | (simp [size_drew]; done) | (simp [size_drew]; omega))).two.2.1, (Box.below pb hW (by first | omega | (simp [size_drew]; done) | (simp [size_drew]; omega))).two.1, (Box.below pb hW (by first | omega | (simp [size_drew]; done) | (simp [size_drew]; omega))).two.2.1⟩
        refine callM hG (i := 6) (by simp only [List.getElem?_toArray, List.getElem?_cons_succ, List.getElem?_cons_zero] <;> rfl) (by kernel_rfl) (by rfl) (by rfl) (by intro W hW; have hSw := hS W hW; (try dsimp only at hSw); go_simp; (first | done | with_reducible rfl | exact ⟨rfl, rfl⟩)) ?_
        intro w10 b10
        have B10 : Below w.heap.size w w10 := (hS w10 b10).1
        have z10 := Below.size b10
        (try simp only [World.size_alloc, World.size_setCell, size_drew] at z10)
        have rsk_ := (rsk.below b10)
        clear rsk; have rsk := rsk_; clear rsk_
        have rsa_ := (rsa.below b10)
        clear rsa; have rsa := rsa_; clear rsa_
        have rsb_ := (rsb.below b10)
        clear rsb; have rsb := rsb_; clear rsb_
        have pk_ : Box w10 (w.heap.size) #[.int .i64 kI0, (.slice kA1 kn1 kc1)] 30 := (Box.below pk b10 (by first | omega | (simp [size_drew]; done) | (simp [size_drew]; omega)))
        clear pk; have pk := pk_; clear pk_
        have pa_ : Box w10 (w.heap.size + 1) #[(.slice aA0 an0 ac0), (.slice aA1 an1 ac1)] 44 := (Box.below pa b10 (by first | omega | (simp [size_drew]; done) | (simp [size_drew]; omega)))
        clear pa; have pa := pa_; clear pa_
        have pb_ : Box w10 (w.heap.size + 1 + 1) #[(.slice bA0 bn0 bc0), (.slice bA1 bn1 bc1)] 44 := (Box.below pb b10 (by first | omega | (simp [size_drew]; done) | (simp [size_drew]; omega)))
        clear pb; have pb := pb_; clear pb_
        clear hS hG
        go_at_call 56
        refine (sAuthAdd_L kI0 rsk.rd kL1n rsa.rd aL0n aL1n rsb.rd bL0n bL1n).mono ?_
        rintro e w11 ⟨w0A0, w0n0, w0c0, w0A1, w0n1, w0c1, rfl, rw0, b11⟩
        refine ⟨_, rfl, b11, fun hG => ?_⟩
        have z11 := Below.size b11
        have B11 : Below w.heap.size w w11 := Below.trans (b := _) (by repeat (with_reducible (first | assumption | exact Below.refl _ _ | refine Below.alloc ?_ (by first | omega | (simp; done) | (simp; omega)) _ | refine Below.setCell ?_ (by first | omega | (simp; done) | (simp; omega)) _ | refine Below.drew ?_ | refine below_drewN ?_ _))) (b11.mono (by first | omega | (simp [size_drew]; done) | (simp [size_drew]; omega)))
        have rsk_ := (rsk.below b11)
        clear rsk; have rsk := rsk_; clear rsk_
        have rsa_ := (rsa.below b11)
        clear rsa; have rsa := rsa_; clear rsa_
        have rsb_ := (rsb.below b11)
        clear rsb; have rsb := rsb_; clear rsb_
        have pk_ : Box w11 (w.heap.size) #[.int .i64 kI0, (.slice kA1 kn1 kc1)] 30 := (Box.below pk b11 (by first | omega | (simp [size_drew]; done) | (simp [size_drew]; omega)))
        clear pk; have pk := pk_; clear pk_
        have pa_ : Box w11 (w.heap.size + 1) #[(.slice aA0 an0 ac0), (.slice aA1 an1 ac1)] 44 := (Box.below pa b11 (by first | omega | (simp [size_drew]; done) | (simp [size_drew]; omega)))
        clear pa; have pa := pa_; clear pa_
        have pb_ : Box w11 (w.heap.size + 1 + 1) #[(.slice bA0 bn0 bc0), (.slice bA1 bn1 bc1)] 44 := (Box.below pb b11 (by first | omega | (simp [size_drew]; done) | (simp [size_drew]; omega)))
        clear pb; have pb := pb_; clear pb_
        (try simp only [Act.put, List.setIfInBounds_toArray, List.set_cons_zero, List.set_cons_succ])
        have hS : ∀ W, Later w11 W → (Below w.heap.size w W ∧ Below w11.heap.size w11 W ∧ W.cell? ⟨w.heap.size, 0, none⟩ = some (.int .i64 kI0) ∧ W.cell? ⟨w.heap.size, 1, none⟩ = some ((.slice kA1 kn1 kc1)) ∧ W.cell? ⟨w.heap.size + 1, 0, none⟩ = some ((.slice aA0 an0 ac0)) ∧ W.cell? ⟨w.heap.size + 1, 1, none⟩ = some ((.slice aA1 an1 ac1)) ∧ W.cell? ⟨w.heap.size + 1 + 1, 0, none⟩ = some ((.slice bA0 bn0 bc0)) ∧ W.cell? ⟨w.heap.size + 1 + 1, 1, none⟩ = some ((.slice bA1 bn1 bc1))) := fun W hW => ⟨Below.trans (b := _) (by repeat (with_reducible (first | assumption | exact Below.refl _ _ | refine Below.alloc ?_ (by first | omega | (simp; done) | (simp; omega)) _ | refine Below.setCell ?_ (by first | omega | (simp; done) | (simp; omega)) _ | refine Below.drew ?_ | refine below_drewN ?_ _))) (Below.mono hW (by first | omega | (simp [size_drew]; done) | (simp [size_drew]; omega))), Below.trans (b := _) (by repeat (with_reducible (first | assumption | exact Below.refl _ _ | refine Below.alloc ?_ (by first | omega | (simp; done) | (simp; omega)) _ | refine Below.setCell ?_ (by first | omega | (simp; done) | (simp; omega)) _ | refine Below.drew ?_ | refine below_drewN ?_ _))) (Below.mono hW (by first | omega | (simp [size_drew]; done) | (simp [size_drew]; omega))), (Box.below pk hW (by first | omega | (simp [size_drew]; done) | (simp [size_drew]; omega))).two.1, (Box.below pk hW (by first | omega | (simp [size_drew]; done) | (simp [size_drew]; omega))).two.2.1, (Box.below pa hW (by first | omega | (simp [size_drew]; done) | (simp [size_drew]; omega))).two.1, (Box.below pa hW (by first | omega | (simp [size_drew]; done) | (simp [size_drew]; omega))).two.2.1, (Box.below pb hW (by first | omega | (simp [size_drew]; done) | (simp [size_drew]; omega))).two.1, (Box.below pb hW (by first | omega | (simp [size_drew]; done) | (simp [size_drew]; omega))).two.2.1⟩
        refine storeM (z := 8) (by simp only [List.getElem?_toArray, List.getElem?_cons_succ, List.getElem?_cons_zero] <;> rfl) (by kernel_rfl) (by rfl) (by rfl) ?_
        intro w12 b12
        have B12 : Below w.heap.size w w12 := (hS w12 b12).1
        have z12 := Below.size b12
        (try simp only [World.size_alloc, World.size_setCell, size_drew] at z12)
        have rsk_ := (rsk.below b12)
        clear rsk; have rsk := rsk_; clear rsk_
        have rsa_ := (rsa.below b12)
        clear rsa; have rsa := rsa_; clear rsa_
        have rsb_ := (rsb.below b12)
        clear rsb; have rsb := rsb_; clear rsb_
        have rw0_ := (rw0.below b12)
        clear rw0; have rw0 := rw0_; clear rw0_
        have pk_ : Box w12 (w.heap.size) #[.int .i64 kI0, (.slice kA1 kn1 kc1)] 30 := (Box.below pk b12 (by first | omega | (simp [size_drew]; done) | (simp [size_drew]; omega)))
        clear pk; have pk := pk_; clear pk_
        have pa_ : Box w12 (w.heap.size + 1) #[(.slice aA0 an0 ac0), (.slice aA1 an1 ac1)] 44 := (Box.below pa b12 (by first | omega | (simp [size_drew]; done) | (simp [size_drew]; omega)))
        clear pa; have pa := pa_; clear pa_
        have pb_ : Box w12 (w.heap.size + 1 + 1) #[(.slice bA0 bn0 bc0), (.slice bA1 bn1 bc1)] 44 := (Box.below pb b12 (by first | omega | (simp [size_drew]; done) | (simp [size_drew]; omega)))
        clear pb; have pb := pb_; clear pb_
        clear hS hG
        refine Zc.cons fun gkw0 kw0 nkw0 => ?_
        have nkw0_0 := nkw0 (w10.heap.size, w11.heap.size) (by simp)
        dsimp only at nkw0_0 kw0
        have nkw0_1 := nkw0 (w8.heap.size, w9.heap.size) (by simp)
        dsimp only at nkw0_1 kw0
        have nkw0_2 := nkw0 (w6.heap.size, w7.heap.size) (by simp)
        dsimp only at nkw0_2 kw0
        have nkw0_3 := nkw0 (w4.heap.size, w5.heap.size) (by simp)
        dsimp only at nkw0_3 kw0
        have nkw0_4 := nkw0 (0, w3.heap.size) (by simp)
        dsimp only at nkw0_4 kw0
        clear nkw0
        refine Zc.nil ?_
        (try unfold ptr)
        (try simp only [Act.put, List.setIfInBounds_toArray, List.set_cons_zero, List.set_cons_succ])
        have lkw0 := kw0.lt
        obtain ⟨ckw0_0, ckw0_1, fkw0_0, fkw0_1⟩ := kw0.two
        refine ⟨_, by go_simp; (first | done | with_reducible rfl | exact ⟨rfl, rfl⟩), ?_⟩
        (try simp only [Act.put, List.setIfInBounds_toArray, List.set_cons_zero, List.set_cons_succ])
        refine wpAny_done (by kernel_rfl) ?_ _
        clear ckw0_0 ckw0_1 fkw0_0 fkw0_1
        generalize hw13 : World.setCell _ _ _ = w13
        have z13 : w12.heap.size ≤ w13.heap.size := by rw [← hw13]; simp
        have B13 : Below w.heap.size w w13 := by rw [← hw13]; repeat (with_reducible (first | assumption | exact Below.refl _ _ | refine Below.alloc ?_ (by first | omega | (simp; done) | (simp; omega)) _ | refine Below.setCell ?_ (by first | omega | (simp; done) | (simp; omega)) _ | refine Below.drew ?_ | refine below_drewN ?_ _))
        have hK : ∀ k, k ≠ gkw0 → k < w12.heap.size → w13.heap[k]? = w12.heap[k]? := by
          intro k h0 _; rw [← hw13]
          repeat (first | rfl | refine (Below.heap_setCell _ _ _ _ (by first | exact h0)).trans ?_)
        have rsk_ := rsk.keepBlock z13 (fun k h1 h2 => hK k (by omega) (by have := rsk.2.1; omega))
        clear rsk; have rsk := rsk_; clear rsk_
        have rsa_ := rsa.keepBlock z13 (fun k h1 h2 => hK k (by omega) (by have := rsa.2.1; omega))
        clear rsa; have rsa := rsa_; clear rsa_
        have rsb_ := rsb.keepBlock z13 (fun k h1 h2 => hK k (by omega) (by have := rsb.2.1; omega))
        clear rsb; have rsb := rsb_; clear rsb_
        have rw0_ := rw0.keepBlock z13 (fun k h1 h2 => hK k (by omega) (by have := rw0.2.1; omega))
        clear rw0; have rw0 := rw0_; clear rw0_
        have pk_ : Box w13 (w.heap.size) #[.int .i64 kI0, (.slice kA1 kn1 kc1)] 30 := (by rw [← hw13]; exact ((pk.far (by omega)).far (by omega)))
        clear pk; have pk := pk_; clear pk_
        have pa_ : Box w13 (w.heap.size + 1) #[(.slice aA0 an0 ac0), (.slice aA1 an1 ac1)] 44 := (by rw [← hw13]; exact ((pa.far (by omega)).far (by omega)))
        clear pa; have pa := pa_; clear pa_
        have pb_ : Box w13 (w.heap.size + 1 + 1) #[(.slice bA0 bn0 bc0), (.slice bA1 bn1 bc1)] 44 := (by rw [← hw13]; exact ((pb.far (by omega)).far (by omega)))
        clear pb; have pb := pb_; clear pb_
        have kw0_ : Box w13 (gkw0) #[(.slice w0A0 w0n0 w0c0), (.slice w0A1 w0n1 w0c1)] 38 := (by rw [← hw13]; exact ((kw0.setAt (i := 0) (v := (.slice w0A0 w0n0 w0c0)) (ds := #[(.slice w0A0 w0n0 w0c0), .slice none 0 0]) (by simp)).setAt (i := 1) (v := (.slice w0A1 w0n1 w0c1)) (ds := #[(.slice w0A0 w0n0 w0c0), (.slice w0A1 w0n1 w0c1)]) (by simp)))
        clear kw0; have kw0 := kw0_; clear kw0_
        clear hw13 hK
        obtain ⟨cpk_0, cpk_1, fpk_0, fpk_1⟩ := pk.two
        have l_pk_0 : w.heap.size < w13.heap.size := by omega
        go_wp2_with fail
        refine (toKeys_L kI0 (RdL.cons (d := .ints kL1) (kL1h.rd.below (by repeat (with_reducible (first | assumption | exact Below.refl _ _ | refine Below.alloc ?_ (by first | omega | (simp; done) | (simp; omega)) _ | refine Below.setCell ?_ (by first | omega | (simp; done) | (simp; omega)) _ | refine Below.drew ?_ | refine below_drewN ?_ _)))) RdL.nil) kL1n).mono ?_
        rintro e w14 ⟨xkA1, xkn1, xkc1, rfl, rxk, b14⟩
        clear cpk_0 cpk_1 fpk_0 fpk_1 l_pk_0
        have z14 := b14.size
        try simp only [World.size_alloc, World.size_setCell, size_drew] at z14
        have B14 : Below w.heap.size w w14 := Below.trans (b := _) (by repeat (with_reducible (first | assumption | exact Below.refl _ _ | refine Below.alloc ?_ (by first | omega | (simp; done) | (simp; omega)) _ | refine Below.setCell ?_ (by first | omega | (simp; done) | (simp; omega)) _ | refine Below.drew ?_ | refine below_drewN ?_ _))) (b14.mono (by first | omega | (simp [size_drew]; done) | (simp [size_drew]; omega)))
        have rw0_ := rw0.below b14
        clear rw0; have rw0 := rw0_; clear rw0_
        have pk_ : Box w14 (w.heap.size) #[.int .i64 kI0, (.slice kA1 kn1 kc1)] 30 := pk.below b14 (by first | omega | (simp [size_drew]; done) | (simp [size_drew]; omega))
        clear pk; have pk := pk_; clear pk_
        have pa_ : Box w14 (w.heap.size + 1) #[(.slice aA0 an0 ac0), (.slice aA1 an1 ac1)] 44 := pa.below b14 (by first | omega | (simp [size_drew]; done) | (simp [size_drew]; omega))
        clear pa; have pa := pa_; clear pa_
        have pb_ : Box w14 (w.heap.size + 1 + 1) #[(.slice bA0 bn0 bc0), (.slice bA1 bn1 bc1)] 44 := pb.below b14 (by first | omega | (simp [size_drew]; done) | (simp [size_drew]; omega))
        clear pb; have pb := pb_; clear pb_
        have kw0_ : Box w14 (gkw0) #[(.slice w0A0 w0n0 w0c0), (.slice w0A1 w0n1 w0c1)] 38 := kw0.below b14 (by first | omega | (simp [size_drew]; done) | (simp [size_drew]; omega))
        clear kw0; have kw0 := kw0_; clear kw0_
        try simp only [World.size_alloc, World.size_setCell, size_drew] at rxk
        obtain ⟨cpa_0, cpa_1, fpa_0, fpa_1⟩ := pa.two
        have l_pa_0 : w.heap.size + 1 < w14.heap.size := by omega
        have l_pa_1 : w.heap.size + 1 < w14.heap.size + 1 := by omega
        go_wp2_with fail
        refine (toAuth_L (RdL.cons (d := .ints aL0) (aL0h.rd.below (by repeat (with_reducible (first | assumption | exact Below.refl _ _ | refine Below.alloc ?_ (by first | omega | (simp; done) | (simp; omega)) _ | refine Below.setCell ?_ (by first | omega | (simp; done) | (simp; omega)) _ | refine Below.drew ?_ | refine below_drewN ?_ _)))) (RdL.cons (d := .ints aL1) (aL1h.rd.below (by repeat (with_reducible (first | assumption | exact Below.refl _ _ | refine Below.alloc ?_ (by first | omega | (simp; done) | (simp; omega)) _ | refine Below.setCell ?_ (by first | omega | (simp; done) | (simp; omega)) _ | refine Below.drew ?_ | refine below_drewN ?_ _)))) RdL.nil)) aL0n aL1n).mono ?_
        rintro e w15 ⟨xaA0, xan0, xac0, xaA1, xan1, xac1, rfl, rxa, b15⟩
        clear cpa_0 cpa_1 fpa_0 fpa_1 l_pa_0 l_pa_1
        have z15 := b15.size
        try simp only [World.size_alloc, World.size_setCell, size_drew] at z15
        have B15 : Below w.heap.size w w15 := Below.trans (b := _) (by repeat (with_reducible (first | assumption | exact Below.refl _ _ | refine Below.alloc ?_ (by first | omega | (simp; done) | (simp; omega)) _ | refine Below.setCell ?_ (by first | omega | (simp; done) | (simp; omega)) _ | refine Below.drew ?_ | refine below_drewN ?_ _))) (b15.mono (by first | omega | (simp [size_drew]; done) | (simp [size_drew]; omega)))
        have rw0_ := (rw0.alloc _).below b15
        clear rw0; have rw0 := rw0_; clear rw0_
        have rxk_ := (rxk.alloc _).below b15
        clear rxk; have rxk := rxk_; clear rxk_
        have pk_ : Box w15 (w.heap.size) #[.int .i64 kI0, (.slice kA1 kn1 kc1)] 30 := (pk.alloc _).below b15 (by first | omega | (simp [size_drew]; done) | (simp [size_drew]; omega))
        clear pk; have pk := pk_; clear pk_
        have pa_ : Box w15 (w.heap.size + 1) #[(.slice aA0 an0 ac0), (.slice aA1 an1 ac1)] 44 := (pa.alloc _).below b15 (by first | omega | (simp [size_drew]; done) | (simp [size_drew]; omega))
        clear pa; have pa := pa_; clear pa_
        have pb_ : Box w15 (w.heap.size + 1 + 1) #[(.slice bA0 bn0 bc0), (.slice bA1 bn1 bc1)] 44 := (pb.alloc _).below b15 (by first | omega | (simp [size_drew]; done) | (simp [size_drew]; omega))
        clear pb; have pb := pb_; clear pb_
        have kw0_ : Box w15 (gkw0) #[(.slice w0A0 w0n0 w0c0), (.slice w0A1 w0n1 w0c1)] 38 := (kw0.alloc _).below b15 (by first | omega | (simp [size_drew]; done) | (simp [size_drew]; omega))
        clear kw0; have kw0 := kw0_; clear kw0_
        have xk_ : Box w15 (w14.heap.size) #[.int .i64 kI0, (.slice xkA1 xkn1 xkc1)] 33 := (Box.new (g := w14.heap.size) _ #[.int .i64 kI0, (.slice xkA1 xkn1 xkc1)] 33 (by simp)).below b15 (by first | omega | (simp [size_drew]; done) | (simp [size_drew]; omega))
        have xk := xk_; clear xk_
        try simp only [World.size_alloc, World.size_setCell, size_drew] at rxa
        obtain ⟨cpb_0, cpb_1, fpb_0, fpb_1⟩ := pb.two
        have l_pb_0 : w.heap.size + 1 + 1 < w15.heap.size := by omega
        have l_pb_1 : w.heap.size + 1 + 1 < w15.heap.size + 1 := by omega
        go_wp2_with fail
        refine (toAuth_L (RdL.cons (d := .ints bL0) (bL0h.rd.below (by repeat (with_reducible (first | assumption | exact Below.refl _ _ | refine Below.alloc ?_ (by first | omega | (simp; done) | (simp; omega)) _ | refine Below.setCell ?_ (by first | omega | (simp; done) | (simp; omega)) _ | refine Below.drew ?_ | refine below_drewN ?_ _)))) (RdL.cons (d := .ints bL1) (bL1h.rd.below (by repeat (with_reducible (first | assumption | exact Below.refl _ _ | refine Below.alloc ?_ (by first | omega | (simp; done) | (simp; omega)) _ | refine Below.setCell ?_ (by first | omega | (simp; done) | (simp; omega)) _ | refine Below.drew ?_ | refine below_drewN ?_ _)))) RdL.nil)) bL0n bL1n).mono ?_
        rintro e w16 ⟨xbA0, xbn0, xbc0, xbA1, xbn1, xbc1, rfl, rxb, b16⟩
        clear cpb_0 cpb_1 fpb_0 fpb_1 l_pb_0 l_pb_1
        have z16 := b16.size
        try simp only [World.size_alloc, World.size_setCell, size_drew] at z16
        have B16 : Below w.heap.size w w16 := Below.trans (b := _) (by repeat (with_reducible (first | assumption | exact Below.refl _ _ | refine Below.alloc ?_ (by first | omega | (simp; done) | (simp; omega)) _ | refine Below.setCell ?_ (by first | omega | (simp; done) | (simp; omega)) _ | refine Below.drew ?_ | refine below_drewN ?_ _))) (b16.mono (by first | omega | (simp [size_drew]; done) | (simp [size_drew]; omega)))
        have rw0_ := (rw0.alloc _).below b16
        clear rw0; have rw0 := rw0_; clear rw0_
        have rxk_ := (rxk.alloc _).below b16
        clear rxk; have rxk := rxk_; clear rxk_
        have rxa_ := (rxa.alloc _).below b16
        clear rxa; have rxa := rxa_; clear rxa_
        have pk_ : Box w16 (w.heap.size) #[.int .i64 kI0, (.slice kA1 kn1 kc1)] 30 := (pk.alloc _).below b16 (by first | omega | (simp [size_drew]; done) | (simp [size_drew]; omega))
        clear pk; have pk := pk_; clear pk_
        have pa_ : Box w16 (w.heap.size + 1) #[(.slice aA0 an0 ac0), (.slice aA1 an1 ac1)] 44 := (pa.alloc _).below b16 (by first | omega | (simp [size_drew]; done) | (simp [size_drew]; omega))
        clear pa; have pa := pa_; clear pa_
        have pb_ : Box w16 (w.heap.size + 1 + 1) #[(.slice bA0 bn0 bc0), (.slice bA1 bn1 bc1)] 44 := (pb.alloc _).below b16 (by first | omega | (simp [size_drew]; done) | (simp [size_drew]; omega))
        clear pb; have pb := pb_; clear pb_
        have kw0_ : Box w16 (gkw0) #[(.slice w0A0 w0n0 w0c0), (.slice w0A1 w0n1 w0c1)] 38 := (kw0.alloc _).below b16 (by first | omega | (simp [size_drew]; done) | (simp [size_drew]; omega))
        clear kw0; have kw0 := kw0_; clear kw0_
        have xk_ : Box w16 (w14.heap.size) #[.int .i64 kI0, (.slice xkA1 xkn1 xkc1)] 33 := (xk.alloc _).below b16 (by first | omega | (simp [size_drew]; done) | (simp [size_drew]; omega))
        clear xk; have xk := xk_; clear xk_
        have xa_ : Box w16 (w15.heap.size) #[(.slice xaA0 xan0 xac0), (.slice xaA1 xan1 xac1)] 38 := (Box.new (g := w15.heap.size) _ #[(.slice xaA0 xan0 xac0), (.slice xaA1 xan1 xac1)] 38 (by simp)).below b16 (by first | omega | (simp [size_drew]; done) | (simp [size_drew]; omega))
        have xa := xa_; clear xa_
        try simp only [World.size_alloc, World.size_setCell, size_drew] at rxb
        obtain ⟨cxk_0, cxk_1, fxk_0, fxk_1⟩ := xk.two
        have l_xk_0 : w14.heap.size < w16.heap.size := by omega
        have l_xk_1 : w14.heap.size < w16.heap.size + 1 := by omega
        obtain ⟨cxa_0, cxa_1, fxa_0, fxa_1⟩ := xa.two
        have l_xa_0 : w15.heap.size < w16.heap.size := by omega
        have l_xa_1 : w15.heap.size < w16.heap.size + 1 := by omega
        go_wp2_with fail
        refine (iAuthAdd_L kI0 (rxk.alloc _).rd kL1n (rxa.alloc _).rd aL0n aL1n (rxb.alloc _).rd bL0n bL1n).mono ?_
        rintro e w17 ⟨g0A0, g0n0, g0c0, g0A1, g0n1, g0c1, rfl, rg0, b17⟩
        clear cxk_0 cxk_1 fxk_0 fxk_1 l_xk_0 l_xk_1 cxa_0 cxa_1 fxa_0 fxa_1 l_xa_0 l_xa_1
        have z17 := b17.size
        try simp only [World.size_alloc, World.size_setCell, size_drew] at z17
        have B17 : Below w.heap.size w w17 := Below.trans (b := _) (by repeat (with_reducible (first | assumption | exact Below.refl _ _ | refine Below.alloc ?_ (by first | omega | (simp; done) | (simp; omega)) _ | refine Below.setCell ?_ (by first | omega | (simp; done) | (simp; omega)) _ | refine Below.drew ?_ | refine below_drewN ?_ _))) (b17.mono (by first | omega | (simp [size_drew]; done) | (simp [size_drew]; omega)))
        have rw0_ := (rw0.alloc _).below b17
        clear rw0; have rw0 := rw0_; clear rw0_
        have rxk_ := (rxk.alloc _).below b17
        clear rxk; have rxk := rxk_; clear rxk_
        have rxa_ := (rxa.alloc _).below b17
        clear rxa; have rxa := rxa_; clear rxa_
        have rxb_ := (rxb.alloc _).below b17
        clear rxb; have rxb := rxb_; clear rxb_
        have pk_ : Box w17 (w.heap.size) #[.int .i64 kI0, (.slice kA1 kn1 kc1)] 30 := (pk.alloc _).below b17 (by first | omega | (simp [size_drew]; done) | (simp [size_drew]; omega))
        clear pk; have pk := pk_; clear pk_
        have pa_ : Box w17 (w.heap.size + 1) #[(.slice aA0 an0 ac0), (.slice aA1 an1 ac1)] 44 := (pa.alloc _).below b17 (by first | omega | (simp [size_drew]; done) | (simp [size_drew]; omega))
        clear pa; have pa := pa_; clear pa_
        have pb_ : Box w17 (w.heap.size + 1 + 1) #[(.slice bA0 bn0 bc0), (.slice bA1 bn1 bc1)] 44 := (pb.alloc _).below b17 (by first | omega | (simp [size_drew]; done) | (simp [size_drew]; omega))
        clear pb; have pb := pb_; clear pb_
        have kw0_ : Box w17 (gkw0) #[(.slice w0A0 w0n0 w0c0), (.slice w0A1 w0n1 w0c1)] 38 := (kw0.alloc _).below b17 (by first | omega | (simp [size_drew]; done) | (simp [size_drew]; omega))
        clear kw0; have kw0 := kw0_; clear kw0_
        have xk_ : Box w17 (w14.heap.size) #[.int .i64 kI0, (.slice xkA1 xkn1 xkc1)] 33 := (xk.alloc _).below b17 (by first | omega | (simp [size_drew]; done) | (simp [size_drew]; omega))
        clear xk; have xk := xk_; clear xk_
        have xa_ : Box w17 (w15.heap.size) #[(.slice xaA0 xan0 xac0), (.slice xaA1 xan1 xac1)] 38 := (xa.alloc _).below b17 (by first | omega | (simp [size_drew]; done) | (simp [size_drew]; omega))
        clear xa; have xa := xa_; clear xa_
        have xb_ : Box w17 (w16.heap.size) #[(.slice xbA0 xbn0 xbc0), (.slice xbA1 xbn1 xbc1)] 38 := (Box.new (g := w16.heap.size) _ #[(.slice xbA0 xbn0 xbc0), (.slice xbA1 xbn1 xbc1)] 38 (by simp)).below b17 (by first | omega | (simp [size_drew]; done) | (simp [size_drew]; omega))
        have xb := xb_; clear xb_
        try simp only [World.size_alloc, World.size_setCell, size_drew] at rg0
        obtain ⟨ckw0_0, ckw0_1, fkw0_0, fkw0_1⟩ := kw0.two
        have l_kw0_0 : gkw0 < w17.heap.size := by omega
        have l_kw0_1 : gkw0 < w17.heap.size + 1 := by omega
        go_wp2_with fail
        refine (eqAuth_L (rg0.alloc _).rd (rw0.alloc _).rd rL0_0n rL0_1n).mono ?_
        rintro e w18 ⟨rfl, b18⟩
        clear ckw0_0 ckw0_1 fkw0_0 fkw0_1 l_kw0_0 l_kw0_1
        have z18 := b18.size
        try simp only [World.size_alloc, World.size_setCell, size_drew] at z18
        have B18 : Below w.heap.size w w18 := Below.trans (b := _) (by repeat (with_reducible (first | assumption | exact Below.refl _ _ | refine Below.alloc ?_ (by first | omega | (simp; done) | (simp; omega)) _ | refine Below.setCell ?_ (by first | omega | (simp; done) | (simp; omega)) _ | refine Below.drew ?_ | refine below_drewN ?_ _))) (b18.mono (by first | omega | (simp [size_drew]; done) | (simp [size_drew]; omega)))
        have rw0_ := (rw0.alloc _).below b18
        clear rw0; have rw0 := rw0_; clear rw0_
        have rxk_ := (rxk.alloc _).below b18
        clear rxk; have rxk := rxk_; clear rxk_
        have rxa_ := (rxa.alloc _).below b18
        clear rxa; have rxa := rxa_; clear rxa_
        have rxb_ := (rxb.alloc _).below b18
        clear rxb; have rxb := rxb_; clear rxb_
        have rg0_ := (rg0.alloc _).below b18
        clear rg0; have rg0 := rg0_; clear rg0_
        have pk_ : Box w18 (w.heap.size) #[.int .i64 kI0, (.slice kA1 kn1 kc1)] 30 := (pk.alloc _).below b18 (by first | omega | (simp [size_drew]; done) | (simp [size_drew]; omega))
        clear pk; have pk := pk_; clear pk_
        have pa_ : Box w18 (w.heap.size + 1) #[(.slice aA0 an0 ac0), (.slice aA1 an1 ac1)] 44 := (pa.alloc _).below b18 (by first | omega | (simp [size_drew]; done) | (simp [size_drew]; omega))
        clear pa; have pa := pa_; clear pa_
        have pb_ : Box w18 (w.heap.size + 1 + 1) #[(.slice bA0 bn0 bc0), (.slice bA1 bn1 bc1)] 44 := (pb.alloc _).below b18 (by first | omega | (simp [size_drew]; done) | (simp [size_drew]; omega))
        clear pb; have pb := pb_; clear pb_
        have kw0_ : Box w18 (gkw0) #[(.slice w0A0 w0n0 w0c0), (.slice w0A1 w0n1 w0c1)] 38 := (kw0.alloc _).below b18 (by first | omega | (simp [size_drew]; done) | (simp [size_drew]; omega))
        clear kw0; have kw0 := kw0_; clear kw0_
        have xk_ : Box w18 (w14.heap.size) #[.int .i64 kI0, (.slice xkA1 xkn1 xkc1)] 33 := (xk.alloc _).below b18 (by first | omega | (simp [size_drew]; done) | (simp [size_drew]; omega))
        clear xk; have xk := xk_; clear xk_
        have xa_ : Box w18 (w15.heap.size) #[(.slice xaA0 xan0 xac0), (.slice xaA1 xan1 xac1)] 38 := (xa.alloc _).below b18 (by first | omega | (simp [size_drew]; done) | (simp [size_drew]; omega))
        clear xa; have xa := xa_; clear xa_
        have xb_ : Box w18 (w16.heap.size) #[(.slice xbA0 xbn0 xbc0), (.slice xbA1 xbn1 xbc1)] 38 := (xb.alloc _).below b18 (by first | omega | (simp [size_drew]; done) | (simp [size_drew]; omega))
        clear xb; have xb := xb_; clear xb_
        have kg0_ : Box w18 (w17.heap.size) #[(.slice g0A0 g0n0 g0c0), (.slice g0A1 g0n1 g0c1)] 38 := (Box.new (g := w17.heap.size) _ #[(.slice g0A0 g0n0 g0c0), (.slice g0A1 g0n1 g0c1)] 38 (by simp)).below b18 (by first | omega | (simp [size_drew]; done) | (simp [size_drew]; omega))
        have kg0 := kg0_; clear kg0_
        obtain ⟨cpk_0, cpk_1, fpk_0, fpk_1⟩ := pk.two
        have l_pk_0 : w.heap.size < w18.heap.size := by omega
        obtain ⟨cxk_0, cxk_1, fxk_0, fxk_1⟩ := xk.two
        have l_xk_0 : w14.heap.size < w18.heap.size := by omega
        go_wp2_with fail
        clear cpk_0 cpk_1 fpk_0 fpk_1 l_pk_0 cxk_0 cxk_1 fxk_0 fxk_1 l_xk_0
        refine wp_region_held_drew (S := fun W => W.cell? ⟨w.heap.size, 0, none⟩ = some (.int .i64 kI0) ∧ W.cell? ⟨w.heap.size, 1, none⟩ = some ((.slice kA1 kn1 kc1)) ∧ W.cell? ⟨w14.heap.size, 0, none⟩ = some (.int .i64 kI0) ∧ W.cell? ⟨w14.heap.size, 1, none⟩ = some ((.slice xkA1 xkn1 xkc1))) (by kernel_rfl) ⟨pk.drew.two.1, pk.drew.two.2.1, xk.drew.two.1, xk.drew.two.2.1⟩ (fun hS => ?_)
        (refine takeH (i := 0) (by simp only [List.getElem?_toArray, List.getElem?_cons_succ, List.getElem?_cons_zero] <;> rfl) (by kernel_rfl) (by kernel_rfl) (by kernel_rfl) (by exact fun _ _ _ h => h) (by rfl) (by intro W hSw; (try dsimp only at hSw); go_simp; (first | done | with_reducible rfl)) (by assumption) ?_; (try simp only [Act.put, List.setIfInBounds_toArray, List.set_cons_zero, List.set_cons_succ]))
        (refine takeH (i := 1) (by simp only [List.getElem?_toArray, List.getElem?_cons_succ, List.getElem?_cons_zero] <;> rfl) (by kernel_rfl) (by kernel_rfl) (by kernel_rfl) (by exact fun _ _ _ h => h) (by rfl) (by intro W hSw; (try dsimp only at hSw); go_simp; (first | done | with_reducible rfl)) (by assumption) ?_; (try simp only [Act.put, List.setIfInBounds_toArray, List.set_cons_zero, List.set_cons_succ]))
        refine onlyH (i := 2) (by simp only [List.getElem?_toArray, List.getElem?_cons_succ, List.getElem?_cons_zero] <;> rfl) (by kernel_rfl) (by rfl) ?_
        refine callH (by go_simp; (first | done | with_reducible rfl | exact ⟨rfl, rfl⟩)) ?_
        go_at_call 35
        refine (toKeys_L kI0 (RdL.cons (d := .ints kL1) (kL1h.rd.below (by repeat (with_reducible (first | assumption | exact Below.refl _ _ | refine Below.alloc ?_ (by first | omega | (simp; done) | (simp; omega)) _ | refine Below.setCell ?_ (by first | omega | (simp; done) | (simp; omega)) _ | refine Below.drew ?_ | refine below_drewN ?_ _)))) RdL.nil) kL1n).mono ?_
        rintro e w19 ⟨zkA1, zkn1, zkc1, rfl, rzk, b19⟩
        clear hS
        have z19 := Below.size b19
        (try simp only [World.size_alloc, World.size_setCell, size_drew] at z19)
        have B19 : Below w.heap.size w w19 := Below.trans (b := _) (by repeat (with_reducible (first | assumption | exact Below.refl _ _ | refine Below.alloc ?_ (by first | omega | (simp; done) | (simp; omega)) _ | refine Below.setCell ?_ (by first | omega | (simp; done) | (simp; omega)) _ | refine Below.drew ?_ | refine below_drewN ?_ _))) (b19.mono (by first | omega | (simp [size_drew]; done) | (simp [size_drew]; omega)))
        have rw0_ := (rw0.drew.below b19)
        clear rw0; have rw0 := rw0_; clear rw0_
        have rxk_ := (rxk.drew.below b19)
        clear rxk; have rxk := rxk_; clear rxk_
        have rxa_ := (rxa.drew.below b19)
        clear rxa; have rxa := rxa_; clear rxa_
        have rxb_ := (rxb.drew.below b19)
        clear rxb; have rxb := rxb_; clear rxb_
        have rg0_ := (rg0.drew.below b19)
        clear rg0; have rg0 := rg0_; clear rg0_
        have pk_ : Box w19 (w.heap.size) #[.int .i64 kI0, (.slice kA1 kn1 kc1)] 30 := (Box.below pk.drew b19 (by first | omega | (simp [size_drew]; done) | (simp [size_drew]; omega)))
        clear pk; have pk := pk_; clear pk_
        have pa_ : Box w19 (w.heap.size + 1) #[(.slice aA0 an0 ac0), (.slice aA1 an1 ac1)] 44 := (Box.below pa.drew b19 (by first | omega | (simp [size_drew]; done) | (simp [size_drew]; omega)))
        clear pa; have pa := pa_; clear pa_
        have pb_ : Box w19 (w.heap.size + 1 + 1) #[(.slice bA0 bn0 bc0), (.slice bA1 bn1 bc1)] 44 := (Box.below pb.drew b19 (by first | omega | (simp [size_drew]; done) | (simp [size_drew]; omega)))
        clear pb; have pb := pb_; clear pb_
        have kw0_ : Box w19 (gkw0) #[(.slice w0A0 w0n0 w0c0), (.slice w0A1 w0n1 w0c1)] 38 := (Box.below kw0.drew b19 (by first | omega | (simp [size_drew]; done) | (simp [size_drew]; omega)))
        clear kw0; have kw0 := kw0_; clear kw0_
        have xk_ : Box w19 (w14.heap.size) #[.int .i64 kI0, (.slice xkA1 xkn1 xkc1)] 33 := (Box.below xk.drew b19 (by first | omega | (simp [size_drew]; done) | (simp [size_drew]; omega)))
        clear xk; have xk := xk_; clear xk_
        have xa_ : Box w19 (w15.heap.size) #[(.slice xaA0 xan0 xac0), (.slice xaA1 xan1 xac1)] 38 := (Box.below xa.drew b19 (by first | omega | (simp [size_drew]; done) | (simp [size_drew]; omega)))
        clear xa; have xa := xa_; clear xa_
        have xb_ : Box w19 (w16.heap.size) #[(.slice xbA0 xbn0 xbc0), (.slice xbA1 xbn1 xbc1)] 38 := (Box.below xb.drew b19 (by first | omega | (simp [size_drew]; done) | (simp [size_drew]; omega)))
        clear xb; have xb := xb_; clear xb_
        have kg0_ : Box w19 (w17.heap.size) #[(.slice g0A0 g0n0 g0c0), (.slice g0A1 g0n1 g0c1)] 38 := (Box.below kg0.drew b19 (by first | omega | (simp [size_drew]; done) | (simp [size_drew]; omega)))
        clear kg0; have kg0 := kg0_; clear kg0_
        (try simp only [World.size_alloc, World.size_setCell, size_drew] at rzk)
        refine ⟨_, rfl, ⟨pk.two.1, pk.two.2.1, xk.two.1, xk.two.2.1⟩, fun hS => ?_⟩
        (try simp only [Act.put, List.setIfInBounds_toArray, List.set_cons_zero, List.set_cons_succ])
        refine onlyH (i := 3) (by simp only [List.getElem?_toArray, List.getElem?_cons_succ, List.getElem?_cons_zero] <;> rfl) (by kernel_rfl) (by rfl) ?_
        refine callH (by go_simp; (first | done | with_reducible rfl | exact ⟨rfl, rfl⟩)) ?_
        go_at_call 37
        refine (eqKeys_L kI0 rxk.rd rzk.rd kL1n).mono ?_
        rintro e w20 ⟨rfl, b20⟩
        clear hS
        have z20 := Below.size b20
        (try simp only [World.size_alloc, World.size_setCell, size_drew] at z20)
        have B20 : Below w.heap.size w w20 := Below.trans (b := _) (by repeat (with_reducible (first | assumption | exact Below.refl _ _ | refine Below.alloc ?_ (by first | omega | (simp; done) | (simp; omega)) _ | refine Below.setCell ?_ (by first | omega | (simp; done) | (simp; omega)) _ | refine Below.drew ?_ | refine below_drewN ?_ _))) (b20.mono (by first | omega | (simp [size_drew]; done) | (simp [size_drew]; omega)))
        have rw0_ := (rw0.below b20)
        clear rw0; have rw0 := rw0_; clear rw0_
        have rxk_ := (rxk.below b20)
        clear rxk; have rxk := rxk_; clear rxk_
        have rxa_ := (rxa.below b20)
        clear rxa; have rxa := rxa_; clear rxa_
        have rxb_ := (rxb.below b20)
        clear rxb; have rxb := rxb_; clear rxb_
        have rg0_ := (rg0.below b20)
        clear rg0; have rg0 := rg0_; clear rg0_
        have rzk_ := (rzk.below b20)
        clear rzk; have rzk := rzk_; clear rzk_
        have pk_ : Box w20 (w.heap.size) #[.int .i64 kI0, (.slice kA1 kn1 kc1)] 30 := (Box.below pk b20 (by first | omega | (simp [size_drew]; done) | (simp [size_drew]; omega)))
        clear pk; have pk := pk_; clear pk_
        have pa_ : Box w20 (w.heap.size + 1) #[(.slice aA0 an0 ac0), (.slice aA1 an1 ac1)] 44 := (Box.below pa b20 (by first | omega | (simp [size_drew]; done) | (simp [size_drew]; omega)))
        clear pa; have pa := pa_; clear pa_
        have pb_ : Box w20 (w.heap.size + 1 + 1) #[(.slice bA0 bn0 bc0), (.slice bA1 bn1 bc1)] 44 := (Box.below pb b20 (by first | omega | (simp [size_drew]; done) | (simp [size_drew]; omega)))
        clear pb; have pb := pb_; clear pb_
        have kw0_ : Box w20 (gkw0) #[(.slice w0A0 w0n0 w0c0), (.slice w0A1 w0n1 w0c1)] 38 := (Box.below kw0 b20 (by first | omega | (simp [size_drew]; done) | (simp [size_drew]; omega)))
        clear kw0; have kw0 := kw0_; clear kw0_
        have xk_ : Box w20 (w14.heap.size) #[.int .i64 kI0, (.slice xkA1 xkn1 xkc1)] 33 := (Box.below xk b20 (by first | omega | (simp [size_drew]; done) | (simp [size_drew]; omega)))
        clear xk; have xk := xk_; clear xk_
        have xa_ : Box w20 (w15.heap.size) #[(.slice xaA0 xan0 xac0), (.slice xaA1 xan1 xac1)] 38 := (Box.below xa b20 (by first | omega | (simp [size_drew]; done) | (simp [size_drew]; omega)))
        clear xa; have xa := xa_; clear xa_
        have xb_ : Box w20 (w16.heap.size) #[(.slice xbA0 xbn0 xbc0), (.slice xbA1 xbn1 xbc1)] 38 := (Box.below xb b20 (by first | omega | (simp [size_drew]; done) | (simp [size_drew]; omega)))
        clear xb; have xb := xb_; clear xb_
        have kg0_ : Box w20 (w17.heap.size) #[(.slice g0A0 g0n0 g0c0), (.slice g0A1 g0n1 g0c1)] 38 := (Box.below kg0 b20 (by first | omega | (simp [size_drew]; done) | (simp [size_drew]; omega)))
        clear kg0; have kg0 := kg0_; clear kg0_
        refine ⟨_, rfl, ⟨pk.two.1, pk.two.2.1, xk.two.1, xk.two.2.1⟩, fun hS => ?_⟩
        (try simp only [Act.put, List.setIfInBounds_toArray, List.set_cons_zero, List.set_cons_succ])
        (refine takeH (i := 4) (by simp only [List.getElem?_toArray, List.getElem?_cons_succ, List.getElem?_cons_zero] <;> rfl) (by kernel_rfl) (by kernel_rfl) (by kernel_rfl) (by exact fun _ _ _ h => h) (by rfl) (by intro W hSw; (try dsimp only at hSw); go_simp; (first | done | with_reducible rfl)) (by assumption) ?_; (try simp only [Act.put, List.setIfInBounds_toArray, List.set_cons_zero, List.set_cons_succ]))
        clear hS
        refine wpAnyH_done (by kernel_rfl) ?_ _
        obtain ⟨cpa_0, cpa_1, fpa_0, fpa_1⟩ := pa.two
        have l_pa_0 : w.heap.size + 1 < w20.heap.size := by omega
        obtain ⟨cxa_0, cxa_1, fxa_0, fxa_1⟩ := xa.two
        have l_xa_0 : w15.heap.size < w20.heap.size := by omega
        go_wp2_with fail
        clear cpa_0 cpa_1 fpa_0 fpa_1 l_pa_0 cxa_0 cxa_1 fxa_0 fxa_1 l_xa_0
        refine wp_region_held_drew (S := fun W => W.cell? ⟨w.heap.size + 1, 0, none⟩ = some ((.slice aA0 an0 ac0)) ∧ W.cell? ⟨w.heap.size + 1, 1, none⟩ = some ((.slice aA1 an1 ac1)) ∧ W.cell? ⟨w15.heap.size, 0, none⟩ = some ((.slice xaA0 xan0 xac0)) ∧ W.cell? ⟨w15.heap.size, 1, none⟩ = some ((.slice xaA1 xan1 xac1))) (by kernel_rfl) ⟨pa.drew.two.1, pa.drew.two.2.1, xa.drew.two.1, xa.drew.two.2.1⟩ (fun hS => ?_)
        (refine takeH (i := 0) (by simp only [List.getElem?_toArray, List.getElem?_cons_succ, List.getElem?_cons_zero] <;> rfl) (by kernel_rfl) (by kernel_rfl) (by kernel_rfl) (by exact fun _ _ _ h => h) (by rfl) (by intro W hSw; (try dsimp only at hSw); go_simp; (first | done | with_reducible rfl)) (by assumption) ?_; (try simp only [Act.put, List.setIfInBounds_toArray, List.set_cons_zero, List.set_cons_succ]))
        (refine takeH (i := 1) (by simp only [List.getElem?_toArray, List.getElem?_cons_succ, List.getElem?_cons_zero] <;> rfl) (by kernel_rfl) (by kernel_rfl) (by kernel_rfl) (by exact fun _ _ _ h => h) (by rfl) (by intro W hSw; (try dsimp only at hSw); go_simp; (first | done | with_reducible rfl)) (by assumption) ?_; (try simp only [Act.put, List.setIfInBounds_toArray, List.set_cons_zero, List.set_cons_succ]))
        refine onlyH (i := 2) (by simp only [List.getElem?_toArray, List.getElem?_cons_succ, List.getElem?_cons_zero] <;> rfl) (by kernel_rfl) (by rfl) ?_
        refine callH (by go_simp; (first | done | with_reducible rfl | exact ⟨rfl, rfl⟩)) ?_
        go_at_call 42
        refine (toAuth_L (RdL.cons (d := .ints aL0) (aL0h.rd.below (by repeat (with_reducible (first | assumption | exact Below.refl _ _ | refine Below.alloc ?_ (by first | omega | (simp; done) | (simp; omega)) _ | refine Below.setCell ?_ (by first | omega | (simp; done) | (simp; omega)) _ | refine Below.drew ?_ | refine below_drewN ?_ _)))) (RdL.cons (d := .ints aL1) (aL1h.rd.below (by repeat (with_reducible (first | assumption | exact Below.refl _ _ | refine Below.alloc ?_ (by first | omega | (simp; done) | (simp; omega)) _ | refine Below.setCell ?_ (by first | omega | (simp; done) | (simp; omega)) _ | refine Below.drew ?_ | refine below_drewN ?_ _)))) RdL.nil)) aL0n aL1n).mono ?_
        rintro e w21 ⟨zaA0, zan0, zac0, zaA1, zan1, zac1, rfl, rza, b21⟩
        clear hS
        have z21 := Below.size b21
        (try simp only [World.size_alloc, World.size_setCell, size_drew] at z21)
        have B21 : Below w.heap.size w w21 := Below.trans (b := _) (by repeat (with_reducible (first | assumption | exact Below.refl _ _ | refine Below.alloc ?_ (by first | omega | (simp; done) | (simp; omega)) _ | refine Below.setCell ?_ (by first | omega | (simp; done) | (simp; omega)) _ | refine Below.drew ?_ | refine below_drewN ?_ _))) (b21.mono (by first | omega | (simp [size_drew]; done) | (simp [size_drew]; omega)))
        have rw0_ := (rw0.drew.below b21)
        clear rw0; have rw0 := rw0_; clear rw0_
        have rxk_ := (rxk.drew.below b21)
        clear rxk; have rxk := rxk_; clear rxk_
        have rxa_ := (rxa.drew.below b21)
        clear rxa; have rxa := rxa_; clear rxa_
        have rxb_ := (rxb.drew.below b21)
        clear rxb; have rxb := rxb_; clear rxb_
        have rg0_ := (rg0.drew.below b21)
        clear rg0; have rg0 := rg0_; clear rg0_
        have pk_ : Box w21 (w.heap.size) #[.int .i64 kI0, (.slice kA1 kn1 kc1)] 30 := (Box.below pk.drew b21 (by first | omega | (simp [size_drew]; done) | (simp [size_drew]; omega)))
        clear pk; have pk := pk_; clear pk_
        have pa_ : Box w21 (w.heap.size + 1) #[(.slice aA0 an0 ac0), (.slice aA1 an1 ac1)] 44 := (Box.below pa.drew b21 (by first | omega | (simp [size_drew]; done) | (simp [size_drew]; omega)))
        clear pa; have pa := pa_; clear pa_
        have pb_ : Box w21 (w.heap.size + 1 + 1) #[(.slice bA0 bn0 bc0), (.slice bA1 bn1 bc1)] 44 := (Box.below pb.drew b21 (by first | omega | (simp [size_drew]; done) | (simp [size_drew]; omega)))
        clear pb; have pb := pb_; clear pb_
        have kw0_ : Box w21 (gkw0) #[(.slice w0A0 w0n0 w0c0), (.slice w0A1 w0n1 w0c1)] 38 := (Box.below kw0.drew b21 (by first | omega | (simp [size_drew]; done) | (simp [size_drew]; omega)))
        clear kw0; have kw0 := kw0_; clear kw0_
        have xk_ : Box w21 (w14.heap.size) #[.int .i64 kI0, (.slice xkA1 xkn1 xkc1)] 33 := (Box.below xk.drew b21 (by first | omega | (simp [size_drew]; done) | (simp [size_drew]; omega)))
        clear xk; have xk := xk_; clear xk_
        have xa_ : Box w21 (w15.heap.size) #[(.slice xaA0 xan0 xac0), (.slice xaA1 xan1 xac1)] 38 := (Box.below xa.drew b21 (by first | omega | (simp [size_drew]; done) | (simp [size_drew]; omega)))
        clear xa; have xa := xa_; clear xa_
        have xb_ : Box w21 (w16.heap.size) #[(.slice xbA0 xbn0 xbc0), (.slice xbA1 xbn1 xbc1)] 38 := (Box.below xb.drew b21 (by first | omega | (simp [size_drew]; done) | (simp [size_drew]; omega)))
        clear xb; have xb := xb_; clear xb_
        have kg0_ : Box w21 (w17.heap.size) #[(.slice g0A0 g0n0 g0c0), (.slice g0A1 g0n1 g0c1)] 38 := (Box.below kg0.drew b21 (by first | omega | (simp [size_drew]; done) | (simp [size_drew]; omega)))
        clear kg0; have kg0 := kg0_; clear kg0_
        (try simp only [World.size_alloc, World.size_setCell, size_drew] at rza)
        refine ⟨_, rfl, ⟨pa.two.1, pa.two.2.1, xa.two.1, xa.two.2.1⟩, fun hS => ?_⟩
        (try simp only [Act.put, List.setIfInBounds_toArray, List.set_cons_zero, List.set_cons_succ])
        refine onlyH (i := 3) (by simp only [List.getElem?_toArray, List.getElem?_cons_succ, List.getElem?_cons_zero] <;> rfl) (by kernel_rfl) (by rfl) ?_
        refine callH (by go_simp; (first | done | with_reducible rfl | exact ⟨rfl, rfl⟩)) ?_
        go_at_call 43
        refine (eqAuth_L rxa.rd rza.rd aL0n aL1n).mono ?_
        rintro e w22 ⟨rfl, b22⟩
        clear hS
        have z22 := Below.size b22
        (try simp only [World.size_alloc, World.size_setCell, size_drew] at z22)
        have B22 : Below w.heap.size w w22 := Below.trans (b := _) (by repeat (with_reducible (first | assumption | exact Below.refl _ _ | refine Below.alloc ?_ (by first | omega | (simp; done) | (simp; omega)) _ | refine Below.setCell ?_ (by first | omega | (simp; done) | (simp; omega)) _ | refine Below.drew ?_ | refine below_drewN ?_ _))) (b22.mono (by first | omega | (simp [size_drew]; done) | (simp [size_drew]; omega)))
        have rw0_ := (rw0.below b22)
        clear rw0; have rw0 := rw0_; clear rw0_
        have rxk_ := (rxk.below b22)
        clear rxk; have rxk := rxk_; clear rxk_
        have rxa_ := (rxa.below b22)
        clear rxa; have rxa := rxa_; clear rxa_
        have rxb_ := (rxb.below b22)
        clear rxb; have rxb := rxb_; clear rxb_
        have rg0_ := (rg0.below b22)
        clear rg0; have rg0 := rg0_; clear rg0_
        have rza_ := (rza.below b22)
        clear rza; have rza := rza_; clear rza_
        have pk_ : Box w22 (w.heap.size) #[.int .i64 kI0, (.slice kA1 kn1 kc1)] 30 := (Box.below pk b22 (by first | omega | (simp [size_drew]; done) | (simp [size_drew]; omega)))
        clear pk; have pk := pk_; clear pk_
        have pa_ : Box w22 (w.heap.size + 1) #[(.slice aA0 an0 ac0), (.slice aA1 an1 ac1)] 44 := (Box.below pa b22 (by first | omega | (simp [size_drew]; done) | (simp [size_drew]; omega)))
        clear pa; have pa := pa_; clear pa_
        have pb_ : Box w22 (w.heap.size + 1 + 1) #[(.slice bA0 bn0 bc0), (.slice bA1 bn1 bc1)] 44 := (Box.below pb b22 (by first | omega | (simp [size_drew]; done) | (simp [size_drew]; omega)))
        clear pb; have pb := pb_; clear pb_
        have kw0_ : Box w22 (gkw0) #[(.slice w0A0 w0n0 w0c0), (.slice w0A1 w0n1 w0c1)] 38 := (Box.below kw0 b22 (by first | omega | (simp [size_drew]; done) | (simp [size_drew]; omega)))
        clear kw0; have kw0 := kw0_; clear kw0_
        have xk_ : Box w22 (w14.heap.size) #[.int .i64 kI0, (.slice xkA1 xkn1 xkc1)] 33 := (Box.below xk b22 (by first | omega | (simp [size_drew]; done) | (simp [size_drew]; omega)))
        clear xk; have xk := xk_; clear xk_
        have xa_ : Box w22 (w15.heap.size) #[(.slice xaA0 xan0 xac0), (.slice xaA1 xan1 xac1)] 38 := (Box.below xa b22 (by first | omega | (simp [size_drew]; done) | (simp [size_drew]; omega)))
        clear xa; have xa := xa_; clear xa_
        have xb_ : Box w22 (w16.heap.size) #[(.slice xbA0 xbn0 xbc0), (.slice xbA1 xbn1 xbc1)] 38 := (Box.below xb b22 (by first | omega | (simp [size_drew]; done) | (simp [size_drew]; omega)))
        clear xb; have xb := xb_; clear xb_
        have kg0_ : Box w22 (w17.heap.size) #[(.slice g0A0 g0n0 g0c0), (.slice g0A1 g0n1 g0c1)] 38 := (Box.below kg0 b22 (by first | omega | (simp [size_drew]; done) | (simp [size_drew]; omega)))
        clear kg0; have kg0 := kg0_; clear kg0_
        refine ⟨_, rfl, ⟨pa.two.1, pa.two.2.1, xa.two.1, xa.two.2.1⟩, fun hS => ?_⟩
        (try simp only [Act.put, List.setIfInBounds_toArray, List.set_cons_zero, List.set_cons_succ])
        (refine takeH (i := 4) (by simp only [List.getElem?_toArray, List.getElem?_cons_succ, List.getElem?_cons_zero] <;> rfl) (by kernel_rfl) (by kernel_rfl) (by kernel_rfl) (by exact fun _ _ _ h => h) (by rfl) (by intro W hSw; (try dsimp only at hSw); go_simp; (first | done | with_reducible rfl)) (by assumption) ?_; (try simp only [Act.put, List.setIfInBounds_toArray, List.set_cons_zero, List.set_cons_succ]))
        clear hS
        refine wpAnyH_done (by kernel_rfl) ?_ _
        obtain ⟨cpb_0, cpb_1, fpb_0, fpb_1⟩ := pb.two
        have l_pb_0 : w.heap.size + 1 + 1 < w22.heap.size := by omega
        obtain ⟨cxb_0, cxb_1, fxb_0, fxb_1⟩ := xb.two
        have l_xb_0 : w16.heap.size < w22.heap.size := by omega
        go_wp2_with fail
        clear cpb_0 cpb_1 fpb_0 fpb_1 l_pb_0 cxb_0 cxb_1 fxb_0 fxb_1 l_xb_0
        refine wp_region_held_drew (S := fun W => W.cell? ⟨w.heap.size + 1 + 1, 0, none⟩ = some ((.slice bA0 bn0 bc0)) ∧ W.cell? ⟨w.heap.size + 1 + 1, 1, none⟩ = some ((.slice bA1 bn1 bc1)) ∧ W.cell? ⟨w16.heap.size, 0, none⟩ = some ((.slice xbA0 xbn0 xbc0)) ∧ W.cell? ⟨w16.heap.size, 1, none⟩ = some ((.slice xbA1 xbn1 xbc1))) (by kernel_rfl) ⟨pb.drew.two.1, pb.drew.two.2.1, xb.drew.two.1, xb.drew.two.2.1⟩ (fun hS => ?_)
        (refine takeH (i := 0) (by simp only [List.getElem?_toArray, List.getElem?_cons_succ, List.getElem?_cons_zero] <;> rfl) (by kernel_rfl) (by kernel_rfl) (by kernel_rfl) (by exact fun _ _ _ h => h) (by rfl) (by intro W hSw; (try dsimp only at hSw); go_simp; (first | done | with_reducible rfl)) (by assumption) ?_; (try simp only [Act.put, List.setIfInBounds_toArray, List.set_cons_zero, List.set_cons_succ]))
        (refine takeH (i := 1) (by simp only [List.getElem?_toArray, List.getElem?_cons_succ, List.getElem?_cons_zero] <;> rfl) (by kernel_rfl) (by kernel_rfl) (by kernel_rfl) (by exact fun _ _ _ h => h) (by rfl) (by intro W hSw; (try dsimp only at hSw); go_simp; (first | done | with_reducible rfl)) (by assumption) ?_; (try simp only [Act.put, List.setIfInBounds_toArray, List.set_cons_zero, List.set_cons_succ]))
        refine onlyH (i := 2) (by simp only [List.getElem?_toArray, List.getElem?_cons_succ, List.getElem?_cons_zero] <;> rfl) (by kernel_rfl) (by rfl) ?_
        refine callH (by go_simp; (first | done | with_reducible rfl | exact ⟨rfl, rfl⟩)) ?_
        go_at_call 42
        refine (toAuth_L (RdL.cons (d := .ints bL0) (bL0h.rd.below (by repeat (with_reducible (first | assumption | exact Below.refl _ _ | refine Below.alloc ?_ (by first | omega | (simp; done) | (simp; omega)) _ | refine Below.setCell ?_ (by first | omega | (simp; done) | (simp; omega)) _ | refine Below.drew ?_ | refine below_drewN ?_ _)))) (RdL.cons (d := .ints bL1) (bL1h.rd.below (by repeat (with_reducible (first | assumption | exact Below.refl _ _ | refine Below.alloc ?_ (by first | omega | (simp; done) | (simp; omega)) _ | refine Below.setCell ?_ (by first | omega | (simp; done) | (simp; omega)) _ | refine Below.drew ?_ | refine below_drewN ?_ _)))) RdL.nil)) bL0n bL1n).mono ?_
        rintro e w23 ⟨zbA0, zbn0, zbc0, zbA1, zbn1, zbc1, rfl, rzb, b23⟩
        clear hS
        have z23 := Below.size b23
        (try simp only [World.size_alloc, World.size_setCell, size_drew] at z23)
        have B23 : Below w.heap.size w w23 := Below.trans (b := _) (by repeat (with_reducible (first | assumption | exact Below.refl _ _ | refine Below.alloc ?_ (by first | omega | (simp; done) | (simp; omega)) _ | refine Below.setCell ?_ (by first | omega | (simp; done) | (simp; omega)) _ | refine Below.drew ?_ | refine below_drewN ?_ _))) (b23.mono (by first | omega | (simp [size_drew]; done) | (simp [size_drew]; omega)))
        have rw0_ := (rw0.drew.below b23)
        clear rw0; have rw0 := rw0_; clear rw0_
        have rxk_ := (rxk.drew.below b23)
        clear rxk; have rxk := rxk_; clear rxk_
        have rxa_ := (rxa.drew.below b23)
        clear rxa; have rxa := rxa_; clear rxa_
        have rxb_ := (rxb.drew.below b23)
        clear rxb; have rxb := rxb_; clear rxb_
        have rg0_ := (rg0.drew.below b23)
        clear rg0; have rg0 := rg0_; clear rg0_
        have pk_ : Box w23 (w.heap.size) #[.int .i64 kI0, (.slice kA1 kn1 kc1)] 30 := (Box.below pk.drew b23 (by first | omega | (simp [size_drew]; done) | (simp [size_drew]; omega)))
        clear pk; have pk := pk_; clear pk_
        have pa_ : Box w23 (w.heap.size + 1) #[(.slice aA0 an0 ac0), (.slice aA1 an1 ac1)] 44 := (Box.below pa.drew b23 (by first | omega | (simp [size_drew]; done) | (simp [size_drew]; omega)))
        clear pa; have pa := pa_; clear pa_
        have pb_ : Box w23 (w.heap.size + 1 + 1) #[(.slice bA0 bn0 bc0), (.slice bA1 bn1 bc1)] 44 := (Box.below pb.drew b23 (by first | omega | (simp [size_drew]; done) | (simp [size_drew]; omega)))
        clear pb; have pb := pb_; clear pb_
        have kw0_ : Box w23 (gkw0) #[(.slice w0A0 w0n0 w0c0), (.slice w0A1 w0n1 w0c1)] 38 := (Box.below kw0.drew b23 (by first | omega | (simp [size_drew]; done) | (simp [size_drew]; omega)))
        clear kw0; have kw0 := kw0_; clear kw0_
        have xk_ : Box w23 (w14.heap.size) #[.int .i64 kI0, (.slice xkA1 xkn1 xkc1)] 33 := (Box.below xk.drew b23 (by first | omega | (simp [size_drew]; done) | (simp [size_drew]; omega)))
        clear xk; have xk := xk_; clear xk_
        have xa_ : Box w23 (w15.heap.size) #[(.slice xaA0 xan0 xac0), (.slice xaA1 xan1 xac1)] 38 := (Box.below xa.drew b23 (by first | omega | (simp [size_drew]; done) | (simp [size_drew]; omega)))
        clear xa; have xa := xa_; clear xa_
        have xb_ : Box w23 (w16.heap.size) #[(.slice xbA0 xbn0 xbc0), (.slice xbA1 xbn1 xbc1)] 38 := (Box.below xb.drew b23 (by first | omega | (simp [size_drew]; done) | (simp [size_drew]; omega)))
        clear xb; have xb := xb_; clear xb_
        have kg0_ : Box w23 (w17.heap.size) #[(.slice g0A0 g0n0 g0c0), (.slice g0A1 g0n1 g0c1)] 38 := (Box.below kg0.drew b23 (by first | omega | (simp [size_drew]; done) | (simp [size_drew]; omega)))
        clear kg0; have kg0 := kg0_; clear kg0_
        (try simp only [World.size_alloc, World.size_setCell, size_drew] at rzb)
        refine ⟨_, rfl, ⟨pb.two.1, pb.two.2.1, xb.two.1, xb.two.2.1⟩, fun hS => ?_⟩
        (try simp only [Act.put, List.setIfInBounds_toArray, List.set_cons_zero, List.set_cons_succ])
        refine onlyH (i := 3) (by simp only [List.getElem?_toArray, List.getElem?_cons_succ, List.getElem?_cons_zero] <;> rfl) (by kernel_rfl) (by rfl) ?_
        refine callH (by go_simp; (first | done | with_reducible rfl | exact ⟨rfl, rfl⟩)) ?_
        go_at_call 43
        refine (eqAuth_L rxb.rd rzb.rd bL0n bL1n).mono ?_
        rintro e w24 ⟨rfl, b24⟩
        clear hS
        have z24 := Below.size b24
        (try simp only [World.size_alloc, World.size_setCell, size_drew] at z24)
        have B24 : Below w.heap.size w w24 := Below.trans (b := _) (by repeat (with_reducible (first | assumption | exact Below.refl _ _ | refine Below.alloc ?_ (by first | omega | (simp; done) | (simp; omega)) _ | refine Below.setCell ?_ (by first | omega | (simp; done) | (simp; omega)) _ | refine Below.drew ?_ | refine below_drewN ?_ _))) (b24.mono (by first | omega | (simp [size_drew]; done) | (simp [size_drew]; omega)))
        have rw0_ := (rw0.below b24)
        clear rw0; have rw0 := rw0_; clear rw0_
        have rxk_ := (rxk.below b24)
        clear rxk; have rxk := rxk_; clear rxk_
        have rxa_ := (rxa.below b24)
        clear rxa; have rxa := rxa_; clear rxa_
        have rxb_ := (rxb.below b24)
        clear rxb; have rxb := rxb_; clear rxb_
        have rg0_ := (rg0.below b24)
        clear rg0; have rg0 := rg0_; clear rg0_
        have rzb_ := (rzb.below b24)
        clear rzb; have rzb := rzb_; clear rzb_
        have pk_ : Box w24 (w.heap.size) #[.int .i64 kI0, (.slice kA1 kn1 kc1)] 30 := (Box.below pk b24 (by first | omega | (simp [size_drew]; done) | (simp [size_drew]; omega)))
        clear pk; have pk := pk_; clear pk_
        have pa_ : Box w24 (w.heap.size + 1) #[(.slice aA0 an0 ac0), (.slice aA1 an1 ac1)] 44 := (Box.below pa b24 (by first | omega | (simp [size_drew]; done) | (simp [size_drew]; omega)))
        clear pa; have pa := pa_; clear pa_
        have pb_ : Box w24 (w.heap.size + 1 + 1) #[(.slice bA0 bn0 bc0), (.slice bA1 bn1 bc1)] 44 := (Box.below pb b24 (by first | omega | (simp [size_drew]; done) | (simp [size_drew]; omega)))
        clear pb; have pb := pb_; clear pb_
        have kw0_ : Box w24 (gkw0) #[(.slice w0A0 w0n0 w0c0), (.slice w0A1 w0n1 w0c1)] 38 := (Box.below kw0 b24 (by first | omega | (simp [size_drew]; done) | (simp [size_drew]; omega)))
        clear kw0; have kw0 := kw0_; clear kw0_
        have xk_ : Box w24 (w14.heap.size) #[.int .i64 kI0, (.slice xkA1 xkn1 xkc1)] 33 := (Box.below xk b24 (by first | omega | (simp [size_drew]; done) | (simp [size_drew]; omega)))
        clear xk; have xk := xk_; clear xk_
        have xa_ : Box w24 (w15.heap.size) #[(.slice xaA0 xan0 xac0), (.slice xaA1 xan1 xac1)] 38 := (Box.below xa b24 (by first | omega | (simp [size_drew]; done) | (simp [size_drew]; omega)))
        clear xa; have xa := xa_; clear xa_
        have xb_ : Box w24 (w16.heap.size) #[(.slice xbA0 xbn0 xbc0), (.slice xbA1 xbn1 xbc1)] 38 := (Box.below xb b24 (by first | omega | (simp [size_drew]; done) | (simp [size_drew]; omega)))
        clear xb; have xb := xb_; clear xb_
        have kg0_ : Box w24 (w17.heap.size) #[(.slice g0A0 g0n0 g0c0), (.slice g0A1 g0n1 g0c1)] 38 := (Box.below kg0 b24 (by first | omega | (simp [size_drew]; done) | (simp [size_drew]; omega)))
        clear kg0; have kg0 := kg0_; clear kg0_
        refine ⟨_, rfl, ⟨pb.two.1, pb.two.2.1, xb.two.1, xb.two.2.1⟩, fun hS => ?_⟩
        (try simp only [Act.put, List.setIfInBounds_toArray, List.set_cons_zero, List.set_cons_succ])
        (refine takeH (i := 4) (by simp only [List.getElem?_toArray, List.getElem?_cons_succ, List.getElem?_cons_zero] <;> rfl) (by kernel_rfl) (by kernel_rfl) (by kernel_rfl) (by exact fun _ _ _ h => h) (by rfl) (by intro W hSw; (try dsimp only at hSw); go_simp; (first | done | with_reducible rfl)) (by assumption) ?_; (try simp only [Act.put, List.setIfInBounds_toArray, List.set_cons_zero, List.set_cons_succ]))
        clear hS
        refine wpAnyH_done (by kernel_rfl) ?_ _
        obtain ⟨cxk_0, cxk_1, fxk_0, fxk_1⟩ := xk.two
        have l_xk_0 : w14.heap.size < w24.heap.size := by omega
        go_wp2_with fail
        refine (markKeys_L kI0 (1) _ rxk (by first | omega | (simp [size_drew]; done) | (simp [size_drew]; omega)) (by omega) kL1n).mono ?_
        rintro e w25 ⟨rfl, rxk, c25⟩
        clear cxk_0 cxk_1 fxk_0 fxk_1 l_xk_0
        have z25 := c25.size
        try simp only [World.size_alloc, World.size_setCell, size_drew] at z25
        have rw0_ := rw0.away c25 (by omega)
        clear rw0; have rw0 := rw0_; clear rw0_
        have rxa_ := rxa.away c25 (by omega)
        clear rxa; have rxa := rxa_; clear rxa_
        have rxb_ := rxb.away c25 (by omega)
        clear rxb; have rxb := rxb_; clear rxb_
        have rg0_ := rg0.away c25 (by omega)
        clear rg0; have rg0 := rg0_; clear rg0_
        have pk_ : Box w25 (w.heap.size) #[.int .i64 kI0, (.slice kA1 kn1 kc1)] 30 := pk.chg c25 (by omega)
        clear pk; have pk := pk_; clear pk_
        have pa_ : Box w25 (w.heap.size + 1) #[(.slice aA0 an0 ac0), (.slice aA1 an1 ac1)] 44 := pa.chg c25 (by omega)
        clear pa; have pa := pa_; clear pa_
        have pb_ : Box w25 (w.heap.size + 1 + 1) #[(.slice bA0 bn0 bc0), (.slice bA1 bn1 bc1)] 44 := pb.chg c25 (by omega)
        clear pb; have pb := pb_; clear pb_
        have kw0_ : Box w25 (gkw0) #[(.slice w0A0 w0n0 w0c0), (.slice w0A1 w0n1 w0c1)] 38 := kw0.chg c25 (by omega)
        clear kw0; have kw0 := kw0_; clear kw0_
        have xk_ : Box w25 (w14.heap.size) #[.int .i64 kI0, (.slice xkA1 xkn1 xkc1)] 33 := xk.chg c25 (by omega)
        clear xk; have xk := xk_; clear xk_
        have xa_ : Box w25 (w15.heap.size) #[(.slice xaA0 xan0 xac0), (.slice xaA1 xan1 xac1)] 38 := xa.chg c25 (by omega)
        clear xa; have xa := xa_; clear xa_
        have xb_ : Box w25 (w16.heap.size) #[(.slice xbA0 xbn0 xbc0), (.slice xbA1 xbn1 xbc1)] 38 := xb.chg c25 (by omega)
        clear xb; have xb := xb_; clear xb_
        have kg0_ : Box w25 (w17.heap.size) #[(.slice g0A0 g0n0 g0c0), (.slice g0A1 g0n1 g0c1)] 38 := kg0.chg c25 (by omega)
        clear kg0; have kg0 := kg0_; clear kg0_
        have B25 : Below w.heap.size w w25 := B24.trans (c25.below (by omega) (by omega))
        obtain ⟨cxa_0, cxa_1, fxa_0, fxa_1⟩ := xa.two
        have l_xa_0 : w15.heap.size < w25.heap.size := by omega
        go_wp2_with fail
        refine (markAuth_L (1 + (kL1.length)) _ rxa (by first | omega | (simp [size_drew]; done) | (simp [size_drew]; omega)) (by omega) aL0n aL1n).mono ?_
        rintro e w26 ⟨rfl, rxa, c26⟩
        clear cxa_0 cxa_1 fxa_0 fxa_1 l_xa_0
        have z26 := c26.size
        try simp only [World.size_alloc, World.size_setCell, size_drew] at z26
        have rw0_ := rw0.away c26 (by omega)
        clear rw0; have rw0 := rw0_; clear rw0_
        have rxb_ := rxb.away c26 (by omega)
        clear rxb; have rxb := rxb_; clear rxb_
        have rg0_ := rg0.away c26 (by omega)
        clear rg0; have rg0 := rg0_; clear rg0_
        have rxk_ := rxk.away c26 (by omega)
        clear rxk; have rxk := rxk_; clear rxk_
        have pk_ : Box w26 (w.heap.size) #[.int .i64 kI0, (.slice kA1 kn1 kc1)] 30 := pk.chg c26 (by omega)
        clear pk; have pk := pk_; clear pk_
        have pa_ : Box w26 (w.heap.size + 1) #[(.slice aA0 an0 ac0), (.slice aA1 an1 ac1)] 44 := pa.chg c26 (by omega)
        clear pa; have pa := pa_; clear pa_
        have pb_ : Box w26 (w.heap.size + 1 + 1) #[(.slice bA0 bn0 bc0), (.slice bA1 bn1 bc1)] 44 := pb.chg c26 (by omega)
        clear pb; have pb := pb_; clear pb_
        have kw0_ : Box w26 (gkw0) #[(.slice w0A0 w0n0 w0c0), (.slice w0A1 w0n1 w0c1)] 38 := kw0.chg c26 (by omega)
        clear kw0; have kw0 := kw0_; clear kw0_
        have xk_ : Box w26 (w14.heap.size) #[.int .i64 kI0, (.slice xkA1 xkn1 xkc1)] 33 := xk.chg c26 (by omega)
        clear xk; have xk := xk_; clear xk_
        have xa_ : Box w26 (w15.heap.size) #[(.slice xaA0 xan0 xac0), (.slice xaA1 xan1 xac1)] 38 := xa.chg c26 (by omega)
        clear xa; have xa := xa_; clear xa_
        have xb_ : Box w26 (w16.heap.size) #[(.slice xbA0 xbn0 xbc0), (.slice xbA1 xbn1 xbc1)] 38 := xb.chg c26 (by omega)
        clear xb; have xb := xb_; clear xb_
        have kg0_ : Box w26 (w17.heap.size) #[(.slice g0A0 g0n0 g0c0), (.slice g0A1 g0n1 g0c1)] 38 := kg0.chg c26 (by omega)
        clear kg0; have kg0 := kg0_; clear kg0_
        have B26 : Below w.heap.size w w26 := B25.trans (c26.below (by omega) (by omega))
        obtain ⟨cxb_0, cxb_1, fxb_0, fxb_1⟩ := xb.two
        have l_xb_0 : w16.heap.size < w26.heap.size := by omega
        go_wp2_with fail
        refine (markAuth_L (1 + (kL1.length) + (aL0.length + aL1.length)) _ rxb (by first | omega | (simp [size_drew]; done) | (simp [size_drew]; omega)) (by omega) bL0n bL1n).mono ?_
        rintro e w27 ⟨rfl, rxb, c27⟩
        clear cxb_0 cxb_1 fxb_0 fxb_1 l_xb_0
        have z27 := c27.size
        try simp only [World.size_alloc, World.size_setCell, size_drew] at z27
        have rw0_ := rw0.away c27 (by omega)
        clear rw0; have rw0 := rw0_; clear rw0_
        have rg0_ := rg0.away c27 (by omega)
        clear rg0; have rg0 := rg0_; clear rg0_
        have rxk_ := rxk.away c27 (by omega)
        clear rxk; have rxk := rxk_; clear rxk_
        have rxa_ := rxa.away c27 (by omega)
        clear rxa; have rxa := rxa_; clear rxa_
        have pk_ : Box w27 (w.heap.size) #[.int .i64 kI0, (.slice kA1 kn1 kc1)] 30 := pk.chg c27 (by omega)
        clear pk; have pk := pk_; clear pk_
        have pa_ : Box w27 (w.heap.size + 1) #[(.slice aA0 an0 ac0), (.slice aA1 an1 ac1)] 44 := pa.chg c27 (by omega)
        clear pa; have pa := pa_; clear pa_
        have pb_ : Box w27 (w.heap.size + 1 + 1) #[(.slice bA0 bn0 bc0), (.slice bA1 bn1 bc1)] 44 := pb.chg c27 (by omega)
        clear pb; have pb := pb_; clear pb_
        have kw0_ : Box w27 (gkw0) #[(.slice w0A0 w0n0 w0c0), (.slice w0A1 w0n1 w0c1)] 38 := kw0.chg c27 (by omega)
        clear kw0; have kw0 := kw0_; clear kw0_
        have xk_ : Box w27 (w14.heap.size) #[.int .i64 kI0, (.slice xkA1 xkn1 xkc1)] 33 := xk.chg c27 (by omega)
        clear xk; have xk := xk_; clear xk_
        have xa_ : Box w27 (w15.heap.size) #[(.slice xaA0 xan0 xac0), (.slice xaA1 xan1 xac1)] 38 := xa.chg c27 (by omega)
        clear xa; have xa := xa_; clear xa_
        have xb_ : Box w27 (w16.heap.size) #[(.slice xbA0 xbn0 xbc0), (.slice xbA1 xbn1 xbc1)] 38 := xb.chg c27 (by omega)
        clear xb; have xb := xb_; clear xb_
        have kg0_ : Box w27 (w17.heap.size) #[(.slice g0A0 g0n0 g0c0), (.slice g0A1 g0n1 g0c1)] 38 := kg0.chg c27 (by omega)
        clear kg0; have kg0 := kg0_; clear kg0_
        have B27 : Below w.heap.size w w27 := B26.trans (c27.below (by omega) (by omega))
        obtain ⟨ckg0_0, ckg0_1, fkg0_0, fkg0_1⟩ := kg0.two
        have l_kg0_0 : w17.heap.size < w27.heap.size := by omega
        obtain ⟨ckw0_0, ckw0_1, fkw0_0, fkw0_1⟩ := kw0.two
        have l_kw0_0 : gkw0 < w27.heap.size := by omega
        go_wp2_with fail
        refine (eqAuth_L rg0.rd rw0.rd rL0_0n rL0_1n).mono ?_
        rintro e w28 ⟨rfl, b28⟩
        clear ckg0_0 ckg0_1 fkg0_0 fkg0_1 l_kg0_0 ckw0_0 ckw0_1 fkw0_0 fkw0_1 l_kw0_0
        have z28 := b28.size
        try simp only [World.size_alloc, World.size_setCell, size_drew] at z28
        have B28 : Below w.heap.size w w28 := Below.trans (b := _) (by repeat (with_reducible (first | assumption | exact Below.refl _ _ | refine Below.alloc ?_ (by first | omega | (simp; done) | (simp; omega)) _ | refine Below.setCell ?_ (by first | omega | (simp; done) | (simp; omega)) _ | refine Below.drew ?_ | refine below_drewN ?_ _))) (b28.mono (by first | omega | (simp [size_drew]; done) | (simp [size_drew]; omega)))
        have rw0_ := rw0.below b28
        clear rw0; have rw0 := rw0_; clear rw0_
        have rg0_ := rg0.below b28
        clear rg0; have rg0 := rg0_; clear rg0_
        have rxk_ := rxk.below b28
        clear rxk; have rxk := rxk_; clear rxk_
        have rxa_ := rxa.below b28
        clear rxa; have rxa := rxa_; clear rxa_
        have rxb_ := rxb.below b28
        clear rxb; have rxb := rxb_; clear rxb_
        have pk_ : Box w28 (w.heap.size) #[.int .i64 kI0, (.slice kA1 kn1 kc1)] 30 := pk.below b28 (by first | omega | (simp [size_drew]; done) | (simp [size_drew]; omega))
        clear pk; have pk := pk_; clear pk_
        have pa_ : Box w28 (w.heap.size + 1) #[(.slice aA0 an0 ac0), (.slice aA1 an1 ac1)] 44 := pa.below b28 (by first | omega | (simp [size_drew]; done) | (simp [size_drew]; omega))
        clear pa; have pa := pa_; clear pa_
        have pb_ : Box w28 (w.heap.size + 1 + 1) #[(.slice bA0 bn0 bc0), (.slice bA1 bn1 bc1)] 44 := pb.below b28 (by first | omega | (simp [size_drew]; done) | (simp [size_drew]; omega))
        clear pb; have pb := pb_; clear pb_
        have kw0_ : Box w28 (gkw0) #[(.slice w0A0 w0n0 w0c0), (.slice w0A1 w0n1 w0c1)] 38 := kw0.below b28 (by first | omega | (simp [size_drew]; done) | (simp [size_drew]; omega))
        clear kw0; have kw0 := kw0_; clear kw0_
        have xk_ : Box w28 (w14.heap.size) #[.int .i64 kI0, (.slice xkA1 xkn1 xkc1)] 33 := xk.below b28 (by first | omega | (simp [size_drew]; done) | (simp [size_drew]; omega))
        clear xk; have xk := xk_; clear xk_
        have xa_ : Box w28 (w15.heap.size) #[(.slice xaA0 xan0 xac0), (.slice xaA1 xan1 xac1)] 38 := xa.below b28 (by first | omega | (simp [size_drew]; done) | (simp [size_drew]; omega))
        clear xa; have xa := xa_; clear xa_
        have xb_ : Box w28 (w16.heap.size) #[(.slice xbA0 xbn0 xbc0), (.slice xbA1 xbn1 xbc1)] 38 := xb.below b28 (by first | omega | (simp [size_drew]; done) | (simp [size_drew]; omega))
        clear xb; have xb := xb_; clear xb_
        have kg0_ : Box w28 (w17.heap.size) #[(.slice g0A0 g0n0 g0c0), (.slice g0A1 g0n1 g0c1)] 38 := kg0.below b28 (by first | omega | (simp [size_drew]; done) | (simp [size_drew]; omega))
        clear kg0; have kg0 := kg0_; clear kg0_
        obtain ⟨ckg0_0, ckg0_1, fkg0_0, fkg0_1⟩ := kg0.two
        have l_kg0_0 : w17.heap.size < w28.heap.size := by omega
        go_wp2_with fail
        refine (markAuth_L (1) _ rg0 (by first | omega | (simp [size_drew]; done) | (simp [size_drew]; omega)) (by omega) rL0_0n rL0_1n).mono ?_
        rintro e w29 ⟨rfl, rg0, c29⟩
        clear ckg0_0 ckg0_1 fkg0_0 fkg0_1 l_kg0_0
        have z29 := c29.size
        try simp only [World.size_alloc, World.size_setCell, size_drew] at z29
        have rw0_ := rw0.away c29 (by omega)
        clear rw0; have rw0 := rw0_; clear rw0_
        have pk_ : Box w29 (w.heap.size) #[.int .i64 kI0, (.slice kA1 kn1 kc1)] 30 := pk.chg c29 (by omega)
        clear pk; have pk := pk_; clear pk_
        have pa_ : Box w29 (w.heap.size + 1) #[(.slice aA0 an0 ac0), (.slice aA1 an1 ac1)] 44 := pa.chg c29 (by omega)
        clear pa; have pa := pa_; clear pa_
        have pb_ : Box w29 (w.heap.size + 1 + 1) #[(.slice bA0 bn0 bc0), (.slice bA1 bn1 bc1)] 44 := pb.chg c29 (by omega)
        clear pb; have pb := pb_; clear pb_
        have kw0_ : Box w29 (gkw0) #[(.slice w0A0 w0n0 w0c0), (.slice w0A1 w0n1 w0c1)] 38 := kw0.chg c29 (by omega)
        clear kw0; have kw0 := kw0_; clear kw0_
        have kg0_ : Box w29 (w17.heap.size) #[(.slice g0A0 g0n0 g0c0), (.slice g0A1 g0n1 g0c1)] 38 := kg0.chg c29 (by omega)
        clear kg0; have kg0 := kg0_; clear kg0_
        have B29 : Below w.heap.size w w29 := B28.trans (c29.below (by omega) (by omega))
        obtain ⟨ckg0_0, ckg0_1, fkg0_0, fkg0_1⟩ := kg0.two
        have l_kg0_0 : w17.heap.size < w29.heap.size := by omega
        go_wp2_with fail
        refine (heldAuth_L (aAddS kI0 kL1 aL0 aL1 bL0 bL1).length (aAddM kI0 kL1 aL0 aL1 bL0 bL1).length (1) _ rg0.rd (by first | omega | (simp [size_drew]; done) | (simp [size_drew]; omega)) (by omega) rL0_0n rL0_1n).mono ?_
        rintro e w30 ⟨rfl, b30⟩
        clear ckg0_0 ckg0_1 fkg0_0 fkg0_1 l_kg0_0
        have z30 := b30.size
        try simp only [World.size_alloc, World.size_setCell, size_drew] at z30
        have B30 : Below w.heap.size w w30 := Below.trans (b := _) (by repeat (with_reducible (first | assumption | exact Below.refl _ _ | refine Below.alloc ?_ (by first | omega | (simp; done) | (simp; omega)) _ | refine Below.setCell ?_ (by first | omega | (simp; done) | (simp; omega)) _ | refine Below.drew ?_ | refine below_drewN ?_ _))) (b30.mono (by first | omega | (simp [size_drew]; done) | (simp [size_drew]; omega)))
        have rw0_ := rw0.below b30
        clear rw0; have rw0 := rw0_; clear rw0_
        have rg0_ := rg0.below b30
        clear rg0; have rg0 := rg0_; clear rg0_
        have pk_ : Box w30 (w.heap.size) #[.int .i64 kI0, (.slice kA1 kn1 kc1)] 30 := pk.below b30 (by first | omega | (simp [size_drew]; done) | (simp [size_drew]; omega))
        clear pk; have pk := pk_; clear pk_
        have pa_ : Box w30 (w.heap.size + 1) #[(.slice aA0 an0 ac0), (.slice aA1 an1 ac1)] 44 := pa.below b30 (by first | omega | (simp [size_drew]; done) | (simp [size_drew]; omega))
        clear pa; have pa := pa_; clear pa_
        have pb_ : Box w30 (w.heap.size + 1 + 1) #[(.slice bA0 bn0 bc0), (.slice bA1 bn1 bc1)] 44 := pb.below b30 (by first | omega | (simp [size_drew]; done) | (simp [size_drew]; omega))
        clear pb; have pb := pb_; clear pb_
        have kw0_ : Box w30 (gkw0) #[(.slice w0A0 w0n0 w0c0), (.slice w0A1 w0n1 w0c1)] 38 := kw0.below b30 (by first | omega | (simp [size_drew]; done) | (simp [size_drew]; omega))
        clear kw0; have kw0 := kw0_; clear kw0_
        have kg0_ : Box w30 (w17.heap.size) #[(.slice g0A0 g0n0 g0c0), (.slice g0A1 g0n1 g0c1)] 38 := kg0.below b30 (by first | omega | (simp [size_drew]; done) | (simp [size_drew]; omega))
        clear kg0; have kg0 := kg0_; clear kg0_
        obtain ⟨cpk_0, cpk_1, fpk_0, fpk_1⟩ := pk.two
        have l_pk_0 : w.heap.size < w30.heap.size := by omega
        obtain ⟨cpa_0, cpa_1, fpa_0, fpa_1⟩ := pa.two
        have l_pa_0 : w.heap.size + 1 < w30.heap.size := by omega
        obtain ⟨cpb_0, cpb_1, fpb_0, fpb_1⟩ := pb.two
        have l_pb_0 : w.heap.size + 1 + 1 < w30.heap.size := by omega
        go_wp2_with fail
        clear cpk_0 cpk_1 fpk_0 fpk_1 l_pk_0 cpa_0 cpa_1 fpa_0 fpa_1 l_pa_0 cpb_0 cpb_1 fpb_0 fpb_1 l_pb_0
        refine wp_region_M [8] (w30.heap.size) 9 (S := fun W => Below w.heap.size w W ∧ Below w30.heap.size w30 W ∧ W.cell? ⟨w.heap.size, 0, none⟩ = some (.int .i64 kI0) ∧ W.cell? ⟨w.heap.size, 1, none⟩ = some ((.slice kA1 kn1 kc1)) ∧ W.cell? ⟨w.heap.size + 1, 0, none⟩ = some ((.slice aA0 an0 ac0)) ∧ W.cell? ⟨w.heap.size + 1, 1, none⟩ = some ((.slice aA1 an1 ac1)) ∧ W.cell? ⟨w.heap.size + 1 + 1, 0, none⟩ = some ((.slice bA0 bn0 bc0)) ∧ W.cell? ⟨w.heap.size + 1 + 1, 1, none⟩ = some ((.slice bA1 bn1 bc1))) (by kernel_rfl) (by rfl) (fun W hW => ⟨Below.trans (b := _) (by repeat (with_reducible (first | assumption | exact Below.refl _ _ | refine Below.alloc ?_ (by first | omega | (simp; done) | (simp; omega)) _ | refine Below.setCell ?_ (by first | omega | (simp; done) | (simp; omega)) _ | refine Below.drew ?_ | refine below_drewN ?_ _))) (Below.mono hW (by first | omega | (simp [size_drew]; done) | (simp [size_drew]; omega))), Below.trans (b := _) (by repeat (with_reducible (first | assumption | exact Below.refl _ _ | refine Below.alloc ?_ (by first | omega | (simp; done) | (simp; omega)) _ | refine Below.setCell ?_ (by first | omega | (simp; done) | (simp; omega)) _ | refine Below.drew ?_ | refine below_drewN ?_ _))) (Below.mono hW (by first | omega | (simp [size_drew]; done) | (simp [size_drew]; omega))), (Box.below pk.drew hW (by first | omega | (simp [size_drew]; done) | (simp [size_drew]; omega))).two.1, (Box.below pk.drew hW (by first | omega | (simp [size_drew]; done) | (simp [size_drew]; omega))).two.2.1, (Box.below pa.drew hW (by first | omega | (simp [size_drew]; done) | (simp [size_drew]; omega))).two.1, (Box.below pa.drew hW (by first | omega | (simp [size_drew]; done) | (simp [size_drew]; omega))).two.2.1, (Box.below pb.drew hW (by first | omega | (simp [size_drew]; done) | (simp [size_drew]; omega))).two.1, (Box.below pb.drew hW (by first | omega | (simp [size_drew]; done) | (simp [size_drew]; omega))).two.2.1⟩) (by first | omega | (simp [size_drew]; done) | (simp [size_drew]; omega)) (fun hS hG => ?_)
        (try dsimp only at hS)
        refine pendM 7 16 #[.slice none 0 0, .slice none 0 0] 38 (by simp only [List.getElem?_toArray, List.getElem?_cons_succ, List.getElem?_cons_zero] <;> rfl) (by kernel_rfl) (by exact fun _ _ _ _ h => h) (by intro a W; unfold ptr; go_simp; (first | done | rfl)) hG ?_
        (refine takeM hG (i := 0) (by simp only [List.getElem?_toArray, List.getElem?_cons_succ, List.getElem?_cons_zero] <;> rfl) (by kernel_rfl) (by exact fun _ _ _ h => h) (by rfl) (by intro W hW; have hSw := hS W hW; (try dsimp only at hSw); go_simp; (first | done | with_reducible rfl | exact ⟨rfl, rfl⟩)) ?_; (try simp only [Act.put, List.setIfInBounds_toArray, List.set_cons_zero, List.set_cons_succ]))
        (refine takeM hG (i := 2) (by simp only [List.getElem?_toArray, List.getElem?_cons_succ, List.getElem?_cons_zero] <;> rfl) (by kernel_rfl) (by exact fun _ _ _ h => h) (by rfl) (by intro W hW; have hSw := hS W hW; (try dsimp only at hSw); go_simp; (first | done | with_reducible rfl | exact ⟨rfl, rfl⟩)) ?_; (try simp only [Act.put, List.setIfInBounds_toArray, List.set_cons_zero, List.set_cons_succ]))
        (refine takeM hG (i := 4) (by simp only [List.getElem?_toArray, List.getElem?_cons_succ, List.getElem?_cons_zero] <;> rfl) (by kernel_rfl) (by exact fun _ _ _ h => h) (by rfl) (by intro W hW; have hSw := hS W hW; (try dsimp only at hSw); go_simp; (first | done | with_reducible rfl | exact ⟨rfl, rfl⟩)) ?_; (try simp only [Act.put, List.setIfInBounds_toArray, List.set_cons_zero, List.set_cons_succ]))
        refine callM hG (i := 1) (by simp only [List.getElem?_toArray, List.getElem?_cons_succ, List.getElem?_cons_zero] <;> rfl) (by kernel_rfl) (by rfl) (by rfl) (by intro W hW; have hSw := hS W hW; (try dsimp only at hSw); go_simp; (first | done | with_reducible rfl | exact ⟨rfl, rfl⟩)) ?_
        intro w31 b31
        have B31 : Below w.heap.size w w31 := (hS w31 b31).1
        have z31 := Below.size b31
        (try simp only [World.size_alloc, World.size_setCell, size_drew] at z31)
        have rw0_ := (rw0.drew.below b31)
        clear rw0; have rw0 := rw0_; clear rw0_
        have rg0_ := (rg0.drew.below b31)
        clear rg0; have rg0 := rg0_; clear rg0_
        have pk_ : Box w31 (w.heap.size) #[.int .i64 kI0, (.slice kA1 kn1 kc1)] 30 := (Box.below pk.drew b31 (by first | omega | (simp [size_drew]; done) | (simp [size_drew]; omega)))
        clear pk; have pk := pk_; clear pk_
        have pa_ : Box w31 (w.heap.size + 1) #[(.slice aA0 an0 ac0), (.slice aA1 an1 ac1)] 44 := (Box.below pa.drew b31 (by first | omega | (simp [size_drew]; done) | (simp [size_drew]; omega)))
        clear pa; have pa := pa_; clear pa_
        have pb_ : Box w31 (w.heap.size + 1 + 1) #[(.slice bA0 bn0 bc0), (.slice bA1 bn1 bc1)] 44 := (Box.below pb.drew b31 (by first | omega | (simp [size_drew]; done) | (simp [size_drew]; omega)))
        clear pb; have pb := pb_; clear pb_
        have kw0_ : Box w31 (gkw0) #[(.slice w0A0 w0n0 w0c0), (.slice w0A1 w0n1 w0c1)] 38 := (Box.below kw0.drew b31 (by first | omega | (simp [size_drew]; done) | (simp [size_drew]; omega)))
        clear kw0; have kw0 := kw0_; clear kw0_
        have kg0_ : Box w31 (w17.heap.size) #[(.slice g0A0 g0n0 g0c0), (.slice g0A1 g0n1 g0c1)] 38 := (Box.below kg0.drew b31 (by first | omega | (simp [size_drew]; done) | (simp [size_drew]; omega)))
        clear kg0; have kg0 := kg0_; clear kg0_
        clear hS hG
        go_at_call 35
        refine (toKeys_L kI0 (RdL.cons (d := .ints kL1) (kL1h.rd.below (by repeat (with_reducible (first | assumption | exact Below.refl _ _ | refine Below.alloc ?_ (by first | omega | (simp; done) | (simp; omega)) _ | refine Below.setCell ?_ (by first | omega | (simp; done) | (simp; omega)) _ | refine Below.drew ?_ | refine below_drewN ?_ _)))) RdL.nil) kL1n).mono ?_
        rintro e w32 ⟨tkA1, tkn1, tkc1, rfl, rtk, b32⟩
        refine ⟨_, rfl, b32, fun hG => ?_⟩
        have z32 := Below.size b32
        have B32 : Below w.heap.size w w32 := Below.trans (b := _) (by repeat (with_reducible (first | assumption | exact Below.refl _ _ | refine Below.alloc ?_ (by first | omega | (simp; done) | (simp; omega)) _ | refine Below.setCell ?_ (by first | omega | (simp; done) | (simp; omega)) _ | refine Below.drew ?_ | refine below_drewN ?_ _))) (b32.mono (by first | omega | (simp [size_drew]; done) | (simp [size_drew]; omega)))
        have rw0_ := (rw0.below b32)
        clear rw0; have rw0 := rw0_; clear rw0_
        have rg0_ := (rg0.below b32)
        clear rg0; have rg0 := rg0_; clear rg0_
        have pk_ : Box w32 (w.heap.size) #[.int .i64 kI0, (.slice kA1 kn1 kc1)] 30 := (Box.below pk b32 (by first | omega | (simp [size_drew]; done) | (simp [size_drew]; omega)))
        clear pk; have pk := pk_; clear pk_
        have pa_ : Box w32 (w.heap.size + 1) #[(.slice aA0 an0 ac0), (.slice aA1 an1 ac1)] 44 := (Box.below pa b32 (by first | omega | (simp [size_drew]; done) | (simp [size_drew]; omega)))
        clear pa; have pa := pa_; clear pa_
        have pb_ : Box w32 (w.heap.size + 1 + 1) #[(.slice bA0 bn0 bc0), (.slice bA1 bn1 bc1)] 44 := (Box.below pb b32 (by first | omega | (simp [size_drew]; done) | (simp [size_drew]; omega)))
        clear pb; have pb := pb_; clear pb_
        have kw0_ : Box w32 (gkw0) #[(.slice w0A0 w0n0 w0c0), (.slice w0A1 w0n1 w0c1)] 38 := (Box.below kw0 b32 (by first | omega | (simp [size_drew]; done) | (simp [size_drew]; omega)))
        clear kw0; have kw0 := kw0_; clear kw0_
        have kg0_ : Box w32 (w17.heap.size) #[(.slice g0A0 g0n0 g0c0), (.slice g0A1 g0n1 g0c1)] 38 := (Box.below kg0 b32 (by first | omega | (simp [size_drew]; done) | (simp [size_drew]; omega)))
        clear kg0; have kg0 := kg0_; clear kg0_
        (try simp only [Act.put, List.setIfInBounds_toArray, List.set_cons_zero, List.set_cons_succ])
        have hS : ∀ W, Later w32 W → (Below w.heap.size w W ∧ Below w32.heap.size w32 W ∧ W.cell? ⟨w.heap.size, 0, none⟩ = some (.int .i64 kI0) ∧ W.cell? ⟨w.heap.size, 1, none⟩ = some ((.slice kA1 kn1 kc1)) ∧ W.cell? ⟨w.heap.size + 1, 0, none⟩ = some ((.slice aA0 an0 ac0)) ∧ W.cell? ⟨w.heap.size + 1, 1, none⟩ = some ((.slice aA1 an1 ac1)) ∧ W.cell? ⟨w.heap.size + 1 + 1, 0, none⟩ = some ((.slice bA0 bn0 bc0)) ∧ W.cell? ⟨w.heap.size + 1 + 1, 1, none⟩ = some ((.slice bA1 bn1 bc1))) := fun W hW => ⟨Below.trans (b := _) (by repeat (with_reducible (first | assumption | exact Below.refl _ _ | refine Below.alloc ?_ (by first | omega | (simp; done) | (simp; omega)) _ | refine Below.setCell ?_ (by first | omega | (simp; done) | (simp; omega)) _ | refine Below.drew ?_ | refine below_drewN ?_ _))) (Below.mono hW (by first | omega | (simp [size_drew]; done) | (simp [size_drew]; omega))), Below.trans (b := _) (by repeat (with_reducible (first | assumption | exact Below.refl _ _ | refine Below.alloc ?_ (by first | omega | (simp; done) | (simp; omega)) _ | refine Below.setCell ?_ (by first | omega | (simp; done) | (simp; omega)) _ | refine Below.drew ?_ | refine below_drewN ?_ _))) (Below.mono hW (by first | omega | (simp [size_drew]; done) | (simp [size_drew]; omega))), (Box.below pk hW (by first | omega | (simp [size_drew]; done) | (simp [size_drew]; omega))).two.1, (Box.below pk hW (by first | omega | (simp [size_drew]; done) | (simp [size_drew]; omega))).two.2.1, (Box.below pa hW (by first | omega | (simp [size_drew]; done) | (simp [size_drew]; omega))).two.1, (Box.below pa hW (by first | omega | (simp [size_drew]; done) | (simp [size_drew]; omega))).two.2.1, (Box.below pb hW (by first | omega | (simp [size_drew]; done) | (simp [size_drew]; omega))).two.1, (Box.below pb hW (by first | omega | (simp [size_drew]; done) | (simp [size_drew]; omega))).two.2.1⟩
        refine callM hG (i := 3) (by simp only [List.getElem?_toArray, List.getElem?_cons_succ, List.getElem?_cons_zero] <;> rfl) (by kernel_rfl) (by rfl) (by rfl) (by intro W hW; have hSw := hS W hW; (try dsimp only at hSw); go_simp; (first | done | with_reducible rfl | exact ⟨rfl, rfl⟩)) ?_
        intro w33 b33
        have B33 : Below w.heap.size w w33 := (hS w33 b33).1
        have z33 := Below.size b33
        (try simp only [World.size_alloc, World.size_setCell, size_drew] at z33)
        have rw0_ := (rw0.below b33)
        clear rw0; have rw0 := rw0_; clear rw0_
        have rg0_ := (rg0.below b33)
        clear rg0; have rg0 := rg0_; clear rg0_
        have rtk_ := (rtk.below b33)
        clear rtk; have rtk := rtk_; clear rtk_
        have pk_ : Box w33 (w.heap.size) #[.int .i64 kI0, (.slice kA1 kn1 kc1)] 30 := (Box.below pk b33 (by first | omega | (simp [size_drew]; done) | (simp [size_drew]; omega)))
        clear pk; have pk := pk_; clear pk_
        have pa_ : Box w33 (w.heap.size + 1) #[(.slice aA0 an0 ac0), (.slice aA1 an1 ac1)] 44 := (Box.below pa b33 (by first | omega | (simp [size_drew]; done) | (simp [size_drew]; omega)))
        clear pa; have pa := pa_; clear pa_
        have pb_ : Box w33 (w.heap.size + 1 + 1) #[(.slice bA0 bn0 bc0), (.slice bA1 bn1 bc1)] 44 := (Box.below pb b33 (by first | omega | (simp [size_drew]; done) | (simp [size_drew]; omega)))
        clear pb; have pb := pb_; clear pb_
        have kw0_ : Box w33 (gkw0) #[(.slice w0A0 w0n0 w0c0), (.slice w0A1 w0n1 w0c1)] 38 := (Box.below kw0 b33 (by first | omega | (simp [size_drew]; done) | (simp [size_drew]; omega)))
        clear kw0; have kw0 := kw0_; clear kw0_
        have kg0_ : Box w33 (w17.heap.size) #[(.slice g0A0 g0n0 g0c0), (.slice g0A1 g0n1 g0c1)] 38 := (Box.below kg0 b33 (by first | omega | (simp [size_drew]; done) | (simp [size_drew]; omega)))
        clear kg0; have kg0 := kg0_; clear kg0_
        clear hS hG
        go_at_call 42
        refine (toAuth_L (RdL.cons (d := .ints aL0) (aL0h.rd.below (by repeat (with_reducible (first | assumption | exact Below.refl _ _ | refine Below.alloc ?_ (by first | omega | (simp; done) | (simp; omega)) _ | refine Below.setCell ?_ (by first | omega | (simp; done) | (simp; omega)) _ | refine Below.drew ?_ | refine below_drewN ?_ _)))) (RdL.cons (d := .ints aL1) (aL1h.rd.below (by repeat (with_reducible (first | assumption | exact Below.refl _ _ | refine Below.alloc ?_ (by first | omega | (simp; done) | (simp; omega)) _ | refine Below.setCell ?_ (by first | omega | (simp; done) | (simp; omega)) _ | refine Below.drew ?_ | refine below_drewN ?_ _)))) RdL.nil)) aL0n aL1n).mono ?_
        rintro e w34 ⟨taA0, tan0, tac0, taA1, tan1, tac1, rfl, rta, b34⟩
        refine ⟨_, rfl, b34, fun hG => ?_⟩
        have z34 := Below.size b34
        have B34 : Below w.heap.size w w34 := Below.trans (b := _) (by repeat (with_reducible (first | assumption | exact Below.refl _ _ | refine Below.alloc ?_ (by first | omega | (simp; done) | (simp; omega)) _ | refine Below.setCell ?_ (by first | omega | (simp; done) | (simp; omega)) _ | refine Below.drew ?_ | refine below_drewN ?_ _))) (b34.mono (by first | omega | (simp [size_drew]; done) | (simp [size_drew]; omega)))
        have rw0_ := (rw0.below b34)
        clear rw0; have rw0 := rw0_; clear rw0_
        have rg0_ := (rg0.below b34)
        clear rg0; have rg0 := rg0_; clear rg0_
        have rtk_ := (rtk.below b34)
        clear rtk; have rtk := rtk_; clear rtk_
        have pk_ : Box w34 (w.heap.size) #[.int .i64 kI0, (.slice kA1 kn1 kc1)] 30 := (Box.below pk b34 (by first | omega | (simp [size_drew]; done) | (simp [size_drew]; omega)))
        clear pk; have pk := pk_; clear pk_
        have pa_ : Box w34 (w.heap.size + 1) #[(.slice aA0 an0 ac0), (.slice aA1 an1 ac1)] 44 := (Box.below pa b34 (by first | omega | (simp [size_drew]; done) | (simp [size_drew]; omega)))
        clear pa; have pa := pa_; clear pa_
        have pb_ : Box w34 (w.heap.size + 1 + 1) #[(.slice bA0 bn0 bc0), (.slice bA1 bn1 bc1)] 44 := (Box.below pb b34 (by first | omega | (simp [size_drew]; done) | (simp [size_drew]; omega)))
        clear pb; have pb := pb_; clear pb_
        have kw0_ : Box w34 (gkw0) #[(.slice w0A0 w0n0 w0c0), (.slice w0A1 w0n1 w0c1)] 38 := (Box.below kw0 b34 (by first | omega | (simp [size_drew]; done) | (simp [size_drew]; omega)))
        clear kw0; have kw0 := kw0_; clear kw0_
        have kg0_ : Box w34 (w17.heap.size) #[(.slice g0A0 g0n0 g0c0), (.slice g0A1 g0n1 g0c1)] 38 := (Box.below kg0 b34 (by first | omega | (simp [size_drew]; done) | (simp [size_drew]; omega)))
        clear kg0; have kg0 := kg0_; clear kg0_
        (try simp only [Act.put, List.setIfInBounds_toArray, List.set_cons_zero, List.set_cons_succ])
        have hS : ∀ W, Later w34 W → (Below w.heap.size w W ∧ Below w34.heap.size w34 W ∧ W.cell? ⟨w.heap.size, 0, none⟩ = some (.int .i64 kI0) ∧ W.cell? ⟨w.heap.size, 1, none⟩ = some ((.slice kA1 kn1 kc1)) ∧ W.cell? ⟨w.heap.size + 1, 0, none⟩ = some ((.slice aA0 an0 ac0)) ∧ W.cell? ⟨w.heap.size + 1, 1, none⟩ = some ((.slice aA1 an1 ac1)) ∧ W.cell? ⟨w.heap.size + 1 + 1, 0, none⟩ = some ((.slice bA0 bn0 bc0)) ∧ W.cell? ⟨w.heap.size + 1 + 1, 1, none⟩ = some ((.slice bA1 bn1 bc1))) := fun W hW => ⟨Below.trans (b := _) (by repeat (with_reducible (first | assumption | exact Below.refl _ _ | refine Below.alloc ?_ (by first | omega | (simp; done) | (simp; omega)) _ | refine Below.setCell ?_ (by first | omega | (simp; done) | (simp; omega)) _ | refine Below.drew ?_ | refine below_drewN ?_ _))) (Below.mono hW (by first | omega | (simp [size_drew]; done) | (simp [size_drew]; omega))), Below.trans (b := _) (by repeat (with_reducible (first | assumption | exact Below.refl _ _ | refine Below.alloc ?_ (by first | omega | (simp; done) | (simp; omega)) _ | refine Below.setCell ?_ (by first | omega | (simp; done) | (simp; omega)) _ | refine Below.drew ?_ | refine below_drewN ?_ _))) (Below.mono hW (by first | omega | (simp [size_drew]; done) | (simp [size_drew]; omega))), (Box.below pk hW (by first | omega | (simp [size_drew]; done) | (simp [size_drew]; omega))).two.1, (Box.below pk hW (by first | omega | (simp [size_drew]; done) | (simp [size_drew]; omega))).two.2.1, (Box.below pa hW (by first | omega | (simp [size_drew]; done) | (simp [size_drew]; omega))).two.1, (Box.below pa hW (by first | omega | (simp [size_drew]; done) | (simp [size_drew]; omega))).two.2.1, (Box.below pb hW (by first | omega | (simp [size_drew]; done) | (simp [size_drew]; omega))).two.1, (Box.below pb hW (by first | omega | (simp [size_drew]; done) | (simp [size_drew]; omega))).two.2.1⟩
        refine callM hG (i := 5) (by simp only [List.getElem?_toArray, List.getElem?_cons_succ, List.getElem?_cons_zero] <;> rfl) (by kernel_rfl) (by rfl) (by rfl) (by intro W hW; have hSw := hS W hW; (try dsimp only at hSw); go_simp; (first | done | with_reducible rfl | exact ⟨rfl, rfl⟩)) ?_
        intro w35 b35
        have B35 : Below w.heap.size w w35 := (hS w35 b35).1
        have z35 := Below.size b35
        (try simp only [World.size_alloc, World.size_setCell, size_drew] at z35)
        have rw0_ := (rw0.below b35)
        clear rw0; have rw0 := rw0_; clear rw0_
        have rg0_ := (rg0.below b35)
        clear rg0; have rg0 := rg0_; clear rg0_
        have rtk_ := (rtk.below b35)
        clear rtk; have rtk := rtk_; clear rtk_
        have rta_ := (rta.below b35)
        clear rta; have rta := rta_; clear rta_
        have pk_ : Box w35 (w.heap.size) #[.int .i64 kI0, (.slice kA1 kn1 kc1)] 30 := (Box.below pk b35 (by first | omega | (simp [size_drew]; done) | (simp [size_drew]; omega)))
        clear pk; have pk := pk_; clear pk_
        have pa_ : Box w35 (w.heap.size + 1) #[(.slice aA0 an0 ac0), (.slice aA1 an1 ac1)] 44 := (Box.below pa b35 (by first | omega | (simp [size_drew]; done) | (simp [size_drew]; omega)))
        clear pa; have pa := pa_; clear pa_
        have pb_ : Box w35 (w.heap.size + 1 + 1) #[(.slice bA0 bn0 bc0), (.slice bA1 bn1 bc1)] 44 := (Box.below pb b35 (by first | omega | (simp [size_drew]; done) | (simp [size_drew]; omega)))
        clear pb; have pb := pb_; clear pb_
        have kw0_ : Box w35 (gkw0) #[(.slice w0A0 w0n0 w0c0), (.slice w0A1 w0n1 w0c1)] 38 := (Box.below kw0 b35 (by first | omega | (simp [size_drew]; done) | (simp [size_drew]; omega)))
        clear kw0; have kw0 := kw0_; clear kw0_
        have kg0_ : Box w35 (w17.heap.size) #[(.slice g0A0 g0n0 g0c0), (.slice g0A1 g0n1 g0c1)] 38 := (Box.below kg0 b35 (by first | omega | (simp [size_drew]; done) | (simp [size_drew]; omega)))
        clear kg0; have kg0 := kg0_; clear kg0_
        clear hS hG
        go_at_call 42
        refine (toAuth_L (RdL.cons (d := .ints bL0) (bL0h.rd.below (by repeat (with_reducible (first | assumption | exact Below.refl _ _ | refine Below.alloc ?_ (by first | omega | (simp; done) | (simp; omega)) _ | refine Below.setCell ?_ (by first | omega | (simp; done) | (simp; omega)) _ | refine Below.drew ?_ | refine below_drewN ?_ _)))) (RdL.cons (d := .ints bL1) (bL1h.rd.below (by repeat (with_reducible (first | assumption | exact Below.refl _ _ | refine Below.alloc ?_ (by first | omega | (simp; done) | (simp; omega)) _ | refine Below.setCell ?_ (by first | omega | (simp; done) | (simp; omega)) _ | refine Below.drew ?_ | refine below_drewN ?_ _)))) RdL.nil)) bL0n bL1n).mono ?_
        rintro e w36 ⟨tbA0, tbn0, tbc0, tbA1, tbn1, tbc1, rfl, rtb, b36⟩
        refine ⟨_, rfl, b36, fun hG => ?_⟩
        have z36 := Below.size b36
        have B36 : Below w.heap.size w w36 := Below.trans (b := _) (by repeat (with_reducible (first | assumption | exact Below.refl _ _ | refine Below.alloc ?_ (by first | omega | (simp; done) | (simp; omega)) _ | refine Below.setCell ?_ (by first | omega | (simp; done) | (simp; omega)) _ | refine Below.drew ?_ | refine below_drewN ?_ _))) (b36.mono (by first | omega | (simp [size_drew]; done) | (simp [size_drew]; omega)))
        have rw0_ := (rw0.below b36)
        clear rw0; have rw0 := rw0_; clear rw0_
        have rg0_ := (rg0.below b36)
        clear rg0; have rg0 := rg0_; clear rg0_
        have rtk_ := (rtk.below b36)
        clear rtk; have rtk := rtk_; clear rtk_
        have rta_ := (rta.below b36)
        clear rta; have rta := rta_; clear rta_
        have pk_ : Box w36 (w.heap.size) #[.int .i64 kI0, (.slice kA1 kn1 kc1)] 30 := (Box.below pk b36 (by first | omega | (simp [size_drew]; done) | (simp [size_drew]; omega)))
        clear pk; have pk := pk_; clear pk_
        have pa_ : Box w36 (w.heap.size + 1) #[(.slice aA0 an0 ac0), (.slice aA1 an1 ac1)] 44 := (Box.below pa b36 (by first | omega | (simp [size_drew]; done) | (simp [size_drew]; omega)))
        clear pa; have pa := pa_; clear pa_
        have pb_ : Box w36 (w.heap.size + 1 + 1) #[(.slice bA0 bn0 bc0), (.slice bA1 bn1 bc1)] 44 := (Box.below pb b36 (by first | omega | (simp [size_drew]; done) | (simp [size_drew]; omega)))
        clear pb; have pb := pb_; clear pb_
        have kw0_ : Box w36 (gkw0) #[(.slice w0A0 w0n0 w0c0), (.slice w0A1 w0n1 w0c1)] 38 := (Box.below kw0 b36 (by first | omega | (simp [size_drew]; done) | (simp [size_drew]; omega)))
        clear kw0; have kw0 := kw0_; clear kw0_
        have kg0_ : Box w36 (w17.heap.size) #[(.slice g0A0 g0n0 g0c0), (.slice g0A1 g0n1 g0c1)] 38 := (Box.below kg0 b36 (by first | omega | (simp [size_drew]; done) | (simp [size_drew]; omega)))
        clear kg0; have kg0 := kg0_; clear kg0_
        (try simp only [Act.put, List.setIfInBounds_toArray, List.set_cons_zero, List.set_cons_succ])
        have hS : ∀ W, Later w36 W → (Below w.heap.size w W ∧ Below w36.heap.size w36 W ∧ W.cell? ⟨w.heap.size, 0, none⟩ = some (.int .i64 kI0) ∧ W.cell? ⟨w.heap.size, 1, none⟩ = some ((.slice kA1 kn1 kc1)) ∧ W.cell? ⟨w.heap.size + 1, 0, none⟩ = some ((.slice aA0 an0 ac0)) ∧ W.cell? ⟨w.heap.size + 1, 1, none⟩ = some ((.slice aA1 an1 ac1)) ∧ W.cell? ⟨w.heap.size + 1 + 1, 0, none⟩ = some ((.slice bA0 bn0 bc0)) ∧ W.cell? ⟨w.heap.size + 1 + 1, 1, none⟩ = some ((.slice bA1 bn1 bc1))) := fun W hW => ⟨Below.trans (b := _) (by repeat (with_reducible (first | assumption | exact Below.refl _ _ | refine Below.alloc ?_ (by first | omega | (simp; done) | (simp; omega)) _ | refine Below.setCell ?_ (by first | omega | (simp; done) | (simp; omega)) _ | refine Below.drew ?_ | refine below_drewN ?_ _))) (Below.mono hW (by first | omega | (simp [size_drew]; done) | (simp [size_drew]; omega))), Below.trans (b := _) (by repeat (with_reducible (first | assumption | exact Below.refl _ _ | refine Below.alloc ?_ (by first | omega | (simp; done) | (simp; omega)) _ | refine Below.setCell ?_ (by first | omega | (simp; done) | (simp; omega)) _ | refine Below.drew ?_ | refine below_drewN ?_ _))) (Below.mono hW (by first | omega | (simp [size_drew]; done) | (simp [size_drew]; omega))), (Box.below pk hW (by first | omega | (simp [size_drew]; done) | (simp [size_drew]; omega))).two.1, (Box.below pk hW (by first | omega | (simp [size_drew]; done) | (simp [size_drew]; omega))).two.2.1, (Box.below pa hW (by first | omega | (simp [size_drew]; done) | (simp [size_drew]; omega))).two.1, (Box.below pa hW (by first | omega | (simp [size_drew]; done) | (simp [size_drew]; omega))).two.2.1, (Box.below pb hW (by first | omega | (simp [size_drew]; done) | (simp [size_drew]; omega))).two.1, (Box.below pb hW (by first | omega | (simp [size_drew]; done) | (simp [size_drew]; omega))).two.2.1⟩
        refine callM hG (i := 6) (by simp only [List.getElem?_toArray, List.getElem?_cons_succ, List.getElem?_cons_zero] <;> rfl) (by kernel_rfl) (by rfl) (by rfl) (by intro W hW; have hSw := hS W hW; (try dsimp only at hSw); go_simp; (first | done | with_reducible rfl | exact ⟨rfl, rfl⟩)) ?_
        intro w37 b37
        have B37 : Below w.heap.size w w37 := (hS w37 b37).1
        have z37 := Below.size b37
        (try simp only [World.size_alloc, World.size_setCell, size_drew] at z37)
        have rw0_ := (rw0.below b37)
        clear rw0; have rw0 := rw0_; clear rw0_
        have rg0_ := (rg0.below b37)
        clear rg0; have rg0 := rg0_; clear rg0_
        have rtk_ := (rtk.below b37)
        clear rtk; have rtk := rtk_; clear rtk_
        have rta_ := (rta.below b37)
        clear rta; have rta := rta_; clear rta_
        have rtb_ := (rtb.below b37)
        clear rtb; have rtb := rtb_; clear rtb_
        have pk_ : Box w37 (w.heap.size) #[.int .i64 kI0, (.slice kA1 kn1 kc1)] 30 := (Box.below pk b37 (by first | omega | (simp [size_drew]; done) | (simp [size_drew]; omega)))
        clear pk; have pk := pk_; clear pk_
        have pa_ : Box w37 (w.heap.size + 1) #[(.slice aA0 an0 ac0), (.slice aA1 an1 ac1)] 44 := (Box.below pa b37 (by first | omega | (simp [size_drew]; done) | (simp [size_drew]; omega)))
        clear pa; have pa := pa_; clear pa_
        have pb_ : Box w37 (w.heap.size + 1 + 1) #[(.slice bA0 bn0 bc0), (.slice bA1 bn1 bc1)] 44 := (Box.below pb b37 (by first | omega | (simp [size_drew]; done) | (simp [size_drew]; omega)))
        clear pb; have pb := pb_; clear pb_
        have kw0_ : Box w37 (gkw0) #[(.slice w0A0 w0n0 w0c0), (.slice w0A1 w0n1 w0c1)] 38 := (Box.below kw0 b37 (by first | omega | (simp [size_drew]; done) | (simp [size_drew]; omega)))
        clear kw0; have kw0 := kw0_; clear kw0_
        have kg0_ : Box w37 (w17.heap.size) #[(.slice g0A0 g0n0 g0c0), (.slice g0A1 g0n1 g0c1)] 38 := (Box.below kg0 b37 (by first | omega | (simp [size_drew]; done) | (simp [size_drew]; omega)))
        clear kg0; have kg0 := kg0_; clear kg0_
        clear hS hG
        go_at_call 57
        refine (iAuthAdd_L kI0 rtk.rd kL1n rta.rd aL0n aL1n rtb.rd bL0n bL1n).mono ?_
        rintro e w38 ⟨h0A0, h0n0, h0c0, h0A1, h0n1, h0c1, rfl, rh0, b38⟩
        refine ⟨_, rfl, b38, fun hG => ?_⟩
        have z38 := Below.size b38
        have B38 : Below w.heap.size w w38 := Below.trans (b := _) (by repeat (with_reducible (first | assumption | exact Below.refl _ _ | refine Below.alloc ?_ (by first | omega | (simp; done) | (simp; omega)) _ | refine Below.setCell ?_ (by first | omega | (simp; done) | (simp; omega)) _ | refine Below.drew ?_ | refine below_drewN ?_ _))) (b38.mono (by first | omega | (simp [size_drew]; done) | (simp [size_drew]; omega)))
        have rw0_ := (rw0.below b38)
        clear rw0; have rw0 := rw0_; clear rw0_
        have rg0_ := (rg0.below b38)
        clear rg0; have rg0 := rg0_; clear rg0_
        have rtk_ := (rtk.below b38)
        clear rtk; have rtk := rtk_; clear rtk_
        have rta_ := (rta.below b38)
        clear rta; have rta := rta_; clear rta_
        have rtb_ := (rtb.below b38)
        clear rtb; have rtb := rtb_; clear rtb_
        have pk_ : Box w38 (w.heap.size) #[.int .i64 kI0, (.slice kA1 kn1 kc1)] 30 := (Box.below pk b38 (by first | omega | (simp [size_drew]; done) | (simp [size_drew]; omega)))
        clear pk; have pk := pk_; clear pk_
        have pa_ : Box w38 (w.heap.size + 1) #[(.slice aA0 an0 ac0), (.slice aA1 an1 ac1)] 44 := (Box.below pa b38 (by first | omega | (simp [size_drew]; done) | (simp [size_drew]; omega)))
        clear pa; have pa := pa_; clear pa_
        have pb_ : Box w38 (w.heap.size + 1 + 1) #[(.slice bA0 bn0 bc0), (.slice bA1 bn1 bc1)] 44 := (Box.below pb b38 (by first | omega | (simp [size_drew]; done) | (simp [size_drew]; omega)))
        clear pb; have pb := pb_; clear pb_
        have kw0_ : Box w38 (gkw0) #[(.slice w0A0 w0n0 w0c0), (.slice w0A1 w0n1 w0c1)] 38 := (Box.below kw0 b38 (by first | omega | (simp [size_drew]; done) | (simp [size_drew]; omega)))
        clear kw0; have kw0 := kw0_; clear kw0_
        have kg0_ : Box w38 (w17.heap.size) #[(.slice g0A0 g0n0 g0c0), (.slice g0A1 g0n1 g0c1)] 38 := (Box.below kg0 b38 (by first | omega | (simp [size_drew]; done) | (simp [size_drew]; omega)))
        clear kg0; have kg0 := kg0_; clear kg0_
        (try simp only [Act.put, List.setIfInBounds_toArray, List.set_cons_zero, List.set_cons_succ])
        have hS : ∀ W, Later w38 W → (Below w.heap.size w W ∧ Below w38.heap.size w38 W ∧ W.cell? ⟨w.heap.size, 0, none⟩ = some (.int .i64 kI0) ∧ W.cell? ⟨w.heap.size, 1, none⟩ = some ((.slice kA1 kn1 kc1)) ∧ W.cell? ⟨w.heap.size + 1, 0, none⟩ = some ((.slice aA0 an0 ac0)) ∧ W.cell? ⟨w.heap.size + 1, 1, none⟩ = some ((.slice aA1 an1 ac1)) ∧ W.cell? ⟨w.heap.size + 1 + 1, 0, none⟩ = some ((.slice bA0 bn0 bc0)) ∧ W.cell? ⟨w.heap.size + 1 + 1, 1, none⟩ = some ((.slice bA1 bn1 bc1))) := fun W hW => ⟨Below.trans (b := _) (by repeat (with_reducible (first | assumption | exact Below.refl _ _ | refine Below.alloc ?_ (by first | omega | (simp; done) | (simp; omega)) _ | refine Below.setCell ?_ (by first | omega | (simp; done) | (simp; omega)) _ | refine Below.drew ?_ | refine below_drewN ?_ _))) (Below.mono hW (by first | omega | (simp [size_drew]; done) | (simp [size_drew]; omega))), Below.trans (b := _) (by repeat (with_reducible (first | assumption | exact Below.refl _ _ | refine Below.alloc ?_ (by first | omega | (simp; done) | (simp; omega)) _ | refine Below.setCell ?_ (by first | omega | (simp; done) | (simp; omega)) _ | refine Below.drew ?_ | refine below_drewN ?_ _))) (Below.mono hW (by first | omega | (simp [size_drew]; done) | (simp [size_drew]; omega))), (Box.below pk hW (by first | omega | (simp [size_drew]; done) | (simp [size_drew]; omega))).two.1, (Box.below pk hW (by first | omega | (simp [size_drew]; done) | (simp [size_drew]; omega))).two.2.1, (Box.below pa hW (by first | omega | (simp [size_drew]; done) | (simp [size_drew]; omega))).two.1, (Box.below pa hW (by first | omega | (simp [size_drew]; done) | (simp [size_drew]; omega))).two.2.1, (Box.below pb hW (by first | omega | (simp [size_drew]; done) | (simp [size_drew]; omega))).two.1, (Box.below pb hW (by first | omega | (simp [size_drew]; done) | (simp [size_drew]; omega))).two.2.1⟩
        refine storeM (z := 8) (by simp only [List.getElem?_toArray, List.getElem?_cons_succ, List.getElem?_cons_zero] <;> rfl) (by kernel_rfl) (by rfl) (by rfl) ?_
        intro w39 b39
        have B39 : Below w.heap.size w w39 := (hS w39 b39).1
        have z39 := Below.size b39
        (try simp only [World.size_alloc, World.size_setCell, size_drew] at z39)
        have rw0_ := (rw0.below b39)
        clear rw0; have rw0 := rw0_; clear rw0_
        have rg0_ := (rg0.below b39)
        clear rg0; have rg0 := rg0_; clear rg0_
        have rtk_ := (rtk.below b39)
        clear rtk; have rtk := rtk_; clear rtk_
        have rta_ := (rta.below b39)
        clear rta; have rta := rta_; clear rta_
        have rtb_ := (rtb.below b39)
        clear rtb; have rtb := rtb_; clear rtb_
        have rh0_ := (rh0.below b39)
        clear rh0; have rh0 := rh0_; clear rh0_
        have pk_ : Box w39 (w.heap.size) #[.int .i64 kI0, (.slice kA1 kn1 kc1)] 30 := (Box.below pk b39 (by first | omega | (simp [size_drew]; done) | (simp [size_drew]; omega)))
        clear pk; have pk := pk_; clear pk_
        have pa_ : Box w39 (w.heap.size + 1) #[(.slice aA0 an0 ac0), (.slice aA1 an1 ac1)] 44 := (Box.below pa b39 (by first | omega | (simp [size_drew]; done) | (simp [size_drew]; omega)))
        clear pa; have pa := pa_; clear pa_
        have pb_ : Box w39 (w.heap.size + 1 + 1) #[(.slice bA0 bn0 bc0), (.slice bA1 bn1 bc1)] 44 := (Box.below pb b39 (by first | omega | (simp [size_drew]; done) | (simp [size_drew]; omega)))
        clear pb; have pb := pb_; clear pb_
        have kw0_ : Box w39 (gkw0) #[(.slice w0A0 w0n0 w0c0), (.slice w0A1 w0n1 w0c1)] 38 := (Box.below kw0 b39 (by first | omega | (simp [size_drew]; done) | (simp [size_drew]; omega)))
        clear kw0; have kw0 := kw0_; clear kw0_
        have kg0_ : Box w39 (w17.heap.size) #[(.slice g0A0 g0n0 g0c0), (.slice g0A1 g0n1 g0c1)] 38 := (Box.below kg0 b39 (by first | omega | (simp [size_drew]; done) | (simp [size_drew]; omega)))
        clear kg0; have kg0 := kg0_; clear kg0_
        clear hS hG
        refine Zc.cons fun gkh0 kh0 nkh0 => ?_
        have nkh0_0 := nkh0 (w37.heap.size, w38.heap.size) (by simp)
        dsimp only at nkh0_0 kh0
        have nkh0_1 := nkh0 (w35.heap.size, w36.heap.size) (by simp)
        dsimp only at nkh0_1 kh0
        have nkh0_2 := nkh0 (w33.heap.size, w34.heap.size) (by simp)
        dsimp only at nkh0_2 kh0
        have nkh0_3 := nkh0 (w31.heap.size, w32.heap.size) (by simp)
        dsimp only at nkh0_3 kh0
        have nkh0_4 := nkh0 (0, w30.heap.size) (by simp)
        dsimp only at nkh0_4 kh0
        clear nkh0
        refine Zc.nil ?_
        (try unfold ptr)
        (try simp only [Act.put, List.setIfInBounds_toArray, List.set_cons_zero, List.set_cons_succ])
        have lkh0 := kh0.lt
        obtain ⟨ckh0_0, ckh0_1, fkh0_0, fkh0_1⟩ := kh0.two
        refine ⟨_, by go_simp; (first | done | with_reducible rfl | exact ⟨rfl, rfl⟩), ?_⟩
        (try simp only [Act.put, List.setIfInBounds_toArray, List.set_cons_zero, List.set_cons_succ])
        refine wpAny_done (by kernel_rfl) ?_ _
        clear ckh0_0 ckh0_1 fkh0_0 fkh0_1
        generalize hw40 : World.setCell _ _ _ = w40
        have z40 : w39.heap.size ≤ w40.heap.size := by rw [← hw40]; simp
        have B40 : Below w.heap.size w w40 := by rw [← hw40]; repeat (with_reducible (first | assumption | exact Below.refl _ _ | refine Below.alloc ?_ (by first | omega | (simp; done) | (simp; omega)) _ | refine Below.setCell ?_ (by first | omega | (simp; done) | (simp; omega)) _ | refine Below.drew ?_ | refine below_drewN ?_ _))
        have hK : ∀ k, k ≠ gkh0 → k < w39.heap.size → w40.heap[k]? = w39.heap[k]? := by
          intro k h0 _; rw [← hw40]
          repeat (first | rfl | refine (Below.heap_setCell _ _ _ _ (by first | exact h0)).trans ?_)
        have rw0_ := rw0.keepBlock z40 (fun k h1 h2 => hK k (by omega) (by have := rw0.2.1; omega))
        clear rw0; have rw0 := rw0_; clear rw0_
        have rg0_ := rg0.keepBlock z40 (fun k h1 h2 => hK k (by omega) (by have := rg0.2.1; omega))
        clear rg0; have rg0 := rg0_; clear rg0_
        have rtk_ := rtk.keepBlock z40 (fun k h1 h2 => hK k (by omega) (by have := rtk.2.1; omega))
        clear rtk; have rtk := rtk_; clear rtk_
        have rta_ := rta.keepBlock z40 (fun k h1 h2 => hK k (by omega) (by have := rta.2.1; omega))
        clear rta; have rta := rta_; clear rta_
        have rtb_ := rtb.keepBlock z40 (fun k h1 h2 => hK k (by omega) (by have := rtb.2.1; omega))
        clear rtb; have rtb := rtb_; clear rtb_
        have rh0_ := rh0.keepBlock z40 (fun k h1 h2 => hK k (by omega) (by have := rh0.2.1; omega))
        clear rh0; have rh0 := rh0_; clear rh0_
        have pk_ : Box w40 (w.heap.size) #[.int .i64 kI0, (.slice kA1 kn1 kc1)] 30 := (by rw [← hw40]; exact ((pk.far (by omega)).far (by omega)))
        clear pk; have pk := pk_; clear pk_
        have pa_ : Box w40 (w.heap.size + 1) #[(.slice aA0 an0 ac0), (.slice aA1 an1 ac1)] 44 := (by rw [← hw40]; exact ((pa.far (by omega)).far (by omega)))
        clear pa; have pa := pa_; clear pa_
        have pb_ : Box w40 (w.heap.size + 1 + 1) #[(.slice bA0 bn0 bc0), (.slice bA1 bn1 bc1)] 44 := (by rw [← hw40]; exact ((pb.far (by omega)).far (by omega)))
        clear pb; have pb := pb_; clear pb_
        have kw0_ : Box w40 (gkw0) #[(.slice w0A0 w0n0 w0c0), (.slice w0A1 w0n1 w0c1)] 38 := (by rw [← hw40]; exact ((kw0.far (by omega)).far (by omega)))
        clear kw0; have kw0 := kw0_; clear kw0_
        have kg0_ : Box w40 (w17.heap.size) #[(.slice g0A0 g0n0 g0c0), (.slice g0A1 g0n1 g0c1)] 38 := (by rw [← hw40]; exact ((kg0.far (by omega)).far (by omega)))
        clear kg0; have kg0 := kg0_; clear kg0_
        have kh0_ : Box w40 (gkh0) #[(.slice h0A0 h0n0 h0c0), (.slice h0A1 h0n1 h0c1)] 38 := (by rw [← hw40]; exact ((kh0.setAt (i := 0) (v := (.slice h0A0 h0n0 h0c0)) (ds := #[(.slice h0A0 h0n0 h0c0), .slice none 0 0]) (by simp)).setAt (i := 1) (v := (.slice h0A1 h0n1 h0c1)) (ds := #[(.slice h0A0 h0n0 h0c0), (.slice h0A1 h0n1 h0c1)]) (by simp)))
        clear kh0; have kh0 := kh0_; clear kh0_
        clear hw40 hK
        obtain ⟨ckh0_0, ckh0_1, fkh0_0, fkh0_1⟩ := kh0.two
        have l_kh0_0 : gkh0 < w40.heap.size := by omega
        obtain ⟨ckw0_0, ckw0_1, fkw0_0, fkw0_1⟩ := kw0.two
        have l_kw0_0 : gkw0 < w40.heap.size := by omega
        go_wp2_with fail
        refine (eqAuth_L rh0.rd rw0.rd rL0_0n rL0_1n).mono ?_
        rintro e w41 ⟨rfl, b41⟩
        clear ckh0_0 ckh0_1 fkh0_0 fkh0_1 l_kh0_0 ckw0_0 ckw0_1 fkw0_0 fkw0_1 l_kw0_0
        have z41 := b41.size
        try simp only [World.size_alloc, World.size_setCell, size_drew] at z41
        have B41 : Below w.heap.size w w41 := Below.trans (b := _) (by repeat (with_reducible (first | assumption | exact Below.refl _ _ | refine Below.alloc ?_ (by first | omega | (simp; done) | (simp; omega)) _ | refine Below.setCell ?_ (by first | omega | (simp; done) | (simp; omega)) _ | refine Below.drew ?_ | refine below_drewN ?_ _))) (b41.mono (by first | omega | (simp [size_drew]; done) | (simp [size_drew]; omega)))
        have rw0_ := rw0.below b41
        clear rw0; have rw0 := rw0_; clear rw0_
        have rg0_ := rg0.below b41
        clear rg0; have rg0 := rg0_; clear rg0_
        have rh0_ := rh0.below b41
        clear rh0; have rh0 := rh0_; clear rh0_
        have pk_ : Box w41 (w.heap.size) #[.int .i64 kI0, (.slice kA1 kn1 kc1)] 30 := pk.below b41 (by first | omega | (simp [size_drew]; done) | (simp [size_drew]; omega))
        clear pk; have pk := pk_; clear pk_
        have pa_ : Box w41 (w.heap.size + 1) #[(.slice aA0 an0 ac0), (.slice aA1 an1 ac1)] 44 := pa.below b41 (by first | omega | (simp [size_drew]; done) | (simp [size_drew]; omega))
        clear pa; have pa := pa_; clear pa_
        have pb_ : Box w41 (w.heap.size + 1 + 1) #[(.slice bA0 bn0 bc0), (.slice bA1 bn1 bc1)] 44 := pb.below b41 (by first | omega | (simp [size_drew]; done) | (simp [size_drew]; omega))
        clear pb; have pb := pb_; clear pb_
        have kw0_ : Box w41 (gkw0) #[(.slice w0A0 w0n0 w0c0), (.slice w0A1 w0n1 w0c1)] 38 := kw0.below b41 (by first | omega | (simp [size_drew]; done) | (simp [size_drew]; omega))
        clear kw0; have kw0 := kw0_; clear kw0_
        have kg0_ : Box w41 (w17.heap.size) #[(.slice g0A0 g0n0 g0c0), (.slice g0A1 g0n1 g0c1)] 38 := kg0.below b41 (by first | omega | (simp [size_drew]; done) | (simp [size_drew]; omega))
        clear kg0; have kg0 := kg0_; clear kg0_
        have kh0_ : Box w41 (gkh0) #[(.slice h0A0 h0n0 h0c0), (.slice h0A1 h0n1 h0c1)] 38 := kh0.below b41 (by first | omega | (simp [size_drew]; done) | (simp [size_drew]; omega))
        clear kh0; have kh0 := kh0_; clear kh0_
        obtain ⟨ckg0_0, ckg0_1, fkg0_0, fkg0_1⟩ := kg0.two
        have l_kg0_0 : w17.heap.size < w41.heap.size := by omega
        go_wp2_with fail
        refine (heldAuth_L (aAddS kI0 kL1 aL0 aL1 bL0 bL1).length (aAddM kI0 kL1 aL0 aL1 bL0 bL1).length (1) _ rg0.rd (by first | omega | (simp [size_drew]; done) | (simp [size_drew]; omega)) (by omega) rL0_0n rL0_1n).mono ?_
        rintro e w42 ⟨rfl, b42⟩
        clear ckg0_0 ckg0_1 fkg0_0 fkg0_1 l_kg0_0
        have z42 := b42.size
        try simp only [World.size_alloc, World.size_setCell, size_drew] at z42
        have B42 : Below w.heap.size w w42 := Below.trans (b := _) (by repeat (with_reducible (first | assumption | exact Below.refl _ _ | refine Below.alloc ?_ (by first | omega | (simp; done) | (simp; omega)) _ | refine Below.setCell ?_ (by first | omega | (simp; done) | (simp; omega)) _ | refine Below.drew ?_ | refine below_drewN ?_ _))) (b42.mono (by first | omega | (simp [size_drew]; done) | (simp [size_drew]; omega)))
        have rw0_ := rw0.below b42
        clear rw0; have rw0 := rw0_; clear rw0_
        have rg0_ := rg0.below b42
        clear rg0; have rg0 := rg0_; clear rg0_
        have rh0_ := rh0.below b42
        clear rh0; have rh0 := rh0_; clear rh0_
        have pk_ : Box w42 (w.heap.size) #[.int .i64 kI0, (.slice kA1 kn1 kc1)] 30 := pk.below b42 (by first | omega | (simp [size_drew]; done) | (simp [size_drew]; omega))
        clear pk; have pk := pk_; clear pk_
        have pa_ : Box w42 (w.heap.size + 1) #[(.slice aA0 an0 ac0), (.slice aA1 an1 ac1)] 44 := pa.below b42 (by first | omega | (simp [size_drew]; done) | (simp [size_drew]; omega))
        clear pa; have pa := pa_; clear pa_
        have pb_ : Box w42 (w.heap.size + 1 + 1) #[(.slice bA0 bn0 bc0), (.slice bA1 bn1 bc1)] 44 := pb.below b42 (by first | omega | (simp [size_drew]; done) | (simp [size_drew]; omega))
        clear pb; have pb := pb_; clear pb_
        have kw0_ : Box w42 (gkw0) #[(.slice w0A0 w0n0 w0c0), (.slice w0A1 w0n1 w0c1)] 38 := kw0.below b42 (by first | omega | (simp [size_drew]; done) | (simp [size_drew]; omega))
        clear kw0; have kw0 := kw0_; clear kw0_
        have kg0_ : Box w42 (w17.heap.size) #[(.slice g0A0 g0n0 g0c0), (.slice g0A1 g0n1 g0c1)] 38 := kg0.below b42 (by first | omega | (simp [size_drew]; done) | (simp [size_drew]; omega))
        clear kg0; have kg0 := kg0_; clear kg0_
        have kh0_ : Box w42 (gkh0) #[(.slice h0A0 h0n0 h0c0), (.slice h0A1 h0n1 h0c1)] 38 := kh0.below b42 (by first | omega | (simp [size_drew]; done) | (simp [size_drew]; omega))
        clear kh0; have kh0 := kh0_; clear kh0_
        go_wp2_with fail
        go_ret
        exact ⟨rfl, B42⟩
      · skip
        go_enter Try.func12, Try.ntmps12
        go_wp2_with fail
        refine (szKeys_yes kI0 (kL1h.below (by repeat (with_reducible (first | assumption | exact Below.refl _ _ | refine Below.alloc ?_ (by first | omega | (simp; done) | (simp; omega)) _ | refine Below.setCell ?_ (by first | omega | (simp; done) | (simp; omega)) _ | refine Below.drew ?_ | refine below_drewN ?_ _)))) (1048576) _ (by first | rfl | simp) (by omega) (by omega)).mono ?_
        rintro e w1 ⟨rfl, b1⟩
        have z1 := b1.size
        try simp only [World.size_alloc, World.size_setCell, size_drew] at z1
        have B1 : Below w.heap.size w w1 := Below.trans (b := _) (by repeat (with_reducible (first | assumption | exact Below.refl _ _ | refine Below.alloc ?_ (by first | omega | (simp; done) | (simp; omega)) _ | refine Below.setCell ?_ (by first | omega | (simp; done) | (simp; omega)) _ | refine Below.drew ?_ | refine below_drewN ?_ _))) (b1.mono (by first | omega | (simp [size_drew]; done) | (simp [size_drew]; omega)))
        have pk_ : Box w1 (w.heap.size) #[.int .i64 kI0, (.slice kA1 kn1 kc1)] 30 := (((Box.new (g := w.heap.size) _ #[.int .i64 kI0, (.slice kA1 kn1 kc1)] 30 (by simp)).alloc _).alloc _).below b1 (by first | omega | (simp [size_drew]; done) | (simp [size_drew]; omega))
        have pk := pk_; clear pk_
        have pa_ : Box w1 (w.heap.size + 1) #[(.slice aA0 an0 ac0), (.slice aA1 an1 ac1)] 44 := ((Box.new (g := w.heap.size + 1) _ #[(.slice aA0 an0 ac0), (.slice aA1 an1 ac1)] 44 (by simp)).alloc _).below b1 (by first | omega | (simp [size_drew]; done) | (simp [size_drew]; omega))
        have pa := pa_; clear pa_
        have pb_ : Box w1 (w.heap.size + 1 + 1) #[(.slice bA0 bn0 bc0), (.slice bA1 bn1 bc1)] 44 := (Box.new (g := w.heap.size + 1 + 1) _ #[(.slice bA0 bn0 bc0), (.slice bA1 bn1 bc1)] 44 (by simp)).below b1 (by first | omega | (simp [size_drew]; done) | (simp [size_drew]; omega))
        have pb := pb_; clear pb_
        obtain ⟨cpa_0, cpa_1, fpa_0, fpa_1⟩ := pa.two
        have l_pa_0 : w.heap.size + 1 < w1.heap.size := by omega
        go_wp2_with fail
        refine (szAuth_yes (aL0h.below (by repeat (with_reducible (first | assumption | exact Below.refl _ _ | refine Below.alloc ?_ (by first | omega | (simp; done) | (simp; omega)) _ | refine Below.setCell ?_ (by first | omega | (simp; done) | (simp; omega)) _ | refine Below.drew ?_ | refine below_drewN ?_ _)))) (aL1h.below (by repeat (with_reducible (first | assumption | exact Below.refl _ _ | refine Below.alloc ?_ (by first | omega | (simp; done) | (simp; omega)) _ | refine Below.setCell ?_ (by first | omega | (simp; done) | (simp; omega)) _ | refine Below.drew ?_ | refine below_drewN ?_ _)))) (1048576 - (kL1.length)) _ (by first | rfl | simp) (by omega) (by omega)).mono ?_
        rintro e w2 ⟨rfl, b2⟩
        clear cpa_0 cpa_1 fpa_0 fpa_1 l_pa_0
        have z2 := b2.size
        try simp only [World.size_alloc, World.size_setCell, size_drew] at z2
        have B2 : Below w.heap.size w w2 := Below.trans (b := _) (by repeat (with_reducible (first | assumption | exact Below.refl _ _ | refine Below.alloc ?_ (by first | omega | (simp; done) | (simp; omega)) _ | refine Below.setCell ?_ (by first | omega | (simp; done) | (simp; omega)) _ | refine Below.drew ?_ | refine below_drewN ?_ _))) (b2.mono (by first | omega | (simp [size_drew]; done) | (simp [size_drew]; omega)))
        have pk_ : Box w2 (w.heap.size) #[.int .i64 kI0, (.slice kA1 kn1 kc1)] 30 := pk.below b2 (by first | omega | (simp [size_drew]; done) | (simp [size_drew]; omega))
        clear pk; have pk := pk_; clear pk_
        have pa_ : Box w2 (w.heap.size + 1) #[(.slice aA0 an0 ac0), (.slice aA1 an1 ac1)] 44 := pa.below b2 (by first | omega | (simp [size_drew]; done) | (simp [size_drew]; omega))
        clear pa; have pa := pa_; clear pa_
        have pb_ : Box w2 (w.heap.size + 1 + 1) #[(.slice bA0 bn0 bc0), (.slice bA1 bn1 bc1)] 44 := pb.below b2 (by first | omega | (simp [size_drew]; done) | (simp [size_drew]; omega))
        clear pb; have pb := pb_; clear pb_
        obtain ⟨cpb_0, cpb_1, fpb_0, fpb_1⟩ := pb.two
        have l_pb_0 : w.heap.size + 1 + 1 < w2.heap.size := by omega
        go_wp2_with fail
        refine (szAuth_no (bL0h.below (by repeat (with_reducible (first | assumption | exact Below.refl _ _ | refine Below.alloc ?_ (by first | omega | (simp; done) | (simp; omega)) _ | refine Below.setCell ?_ (by first | omega | (simp; done) | (simp; omega)) _ | refine Below.drew ?_ | refine below_drewN ?_ _)))) (bL1h.below (by repeat (with_reducible (first | assumption | exact Below.refl _ _ | refine Below.alloc ?_ (by first | omega | (simp; done) | (simp; omega)) _ | refine Below.setCell ?_ (by first | omega | (simp; done) | (simp; omega)) _ | refine Below.drew ?_ | refine below_drewN ?_ _)))) (1048576 - (kL1.length) - (aL0.length + aL1.length)) _ (by first | rfl | simp) (by omega) (by omega)).mono ?_
        rintro e w3 ⟨rfl, b3⟩
        clear cpb_0 cpb_1 fpb_0 fpb_1 l_pb_0
        have z3 := b3.size
        try simp only [World.size_alloc, World.size_setCell, size_drew] at z3
        have B3 : Below w.heap.size w w3 := Below.trans (b := _) (by repeat (with_reducible (first | assumption | exact Below.refl _ _ | refine Below.alloc ?_ (by first | omega | (simp; done) | (simp; omega)) _ | refine Below.setCell ?_ (by first | omega | (simp; done) | (simp; omega)) _ | refine Below.drew ?_ | refine below_drewN ?_ _))) (b3.mono (by first | omega | (simp [size_drew]; done) | (simp [size_drew]; omega)))
        have pk_ : Box w3 (w.heap.size) #[.int .i64 kI0, (.slice kA1 kn1 kc1)] 30 := pk.below b3 (by first | omega | (simp [size_drew]; done) | (simp [size_drew]; omega))
        clear pk; have pk := pk_; clear pk_
        have pa_ : Box w3 (w.heap.size + 1) #[(.slice aA0 an0 ac0), (.slice aA1 an1 ac1)] 44 := pa.below b3 (by first | omega | (simp [size_drew]; done) | (simp [size_drew]; omega))
        clear pa; have pa := pa_; clear pa_
        have pb_ : Box w3 (w.heap.size + 1 + 1) #[(.slice bA0 bn0 bc0), (.slice bA1 bn1 bc1)] 44 := pb.below b3 (by first | omega | (simp [size_drew]; done) | (simp [size_drew]; omega))
        clear pb; have pb := pb_; clear pb_
        go_wp2
        go_ret
        exact ⟨rfl, B3⟩
    · skip
      go_enter Try.func12, Try.ntmps12
      go_wp2_with fail
      refine (szKeys_yes kI0 (kL1h.below (by repeat (with_reducible (first | assumption | exact Below.refl _ _ | refine Below.alloc ?_ (by first | omega | (simp; done) | (simp; omega)) _ | refine Below.setCell ?_ (by first | omega | (simp; done) | (simp; omega)) _ | refine Below.drew ?_ | refine below_drewN ?_ _)))) (1048576) _ (by first | rfl | simp) (by omega) (by omega)).mono ?_
      rintro e w1 ⟨rfl, b1⟩
      have z1 := b1.size
      try simp only [World.size_alloc, World.size_setCell, size_drew] at z1
      have B1 : Below w.heap.size w w1 := Below.trans (b := _) (by repeat (with_reducible (first | assumption | exact Below.refl _ _ | refine Below.alloc ?_ (by first | omega | (simp; done) | (simp; omega)) _ | refine Below.setCell ?_ (by first | omega | (simp; done) | (simp; omega)) _ | refine Below.drew ?_ | refine below_drewN ?_ _))) (b1.mono (by first | omega | (simp [size_drew]; done) | (simp [size_drew]; omega)))
      have pk_ : Box w1 (w.heap.size) #[.int .i64 kI0, (.slice kA1 kn1 kc1)] 30 := (((Box.new (g := w.heap.size) _ #[.int .i64 kI0, (.slice kA1 kn1 kc1)] 30 (by simp)).alloc _).alloc _).below b1 (by first | omega | (simp [size_drew]; done) | (simp [size_drew]; omega))
      have pk := pk_; clear pk_
      have pa_ : Box w1 (w.heap.size + 1) #[(.slice aA0 an0 ac0), (.slice aA1 an1 ac1)] 44 := ((Box.new (g := w.heap.size + 1) _ #[(.slice aA0 an0 ac0), (.slice aA1 an1 ac1)] 44 (by simp)).alloc _).below b1 (by first | omega | (simp [size_drew]; done) | (simp [size_drew]; omega))
      have pa := pa_; clear pa_
      have pb_ : Box w1 (w.heap.size + 1 + 1) #[(.slice bA0 bn0 bc0), (.slice bA1 bn1 bc1)] 44 := (Box.new (g := w.heap.size + 1 + 1) _ #[(.slice bA0 bn0 bc0), (.slice bA1 bn1 bc1)] 44 (by simp)).below b1 (by first | omega | (simp [size_drew]; done) | (simp [size_drew]; omega))
      have pb := pb_; clear pb_
      obtain ⟨cpa_0, cpa_1, fpa_0, fpa_1⟩ := pa.two
      have l_pa_0 : w.heap.size + 1 < w1.heap.size := by omega
      go_wp2_with fail
      refine (szAuth_no (aL0h.below (by repeat (with_reducible (first | assumption | exact Below.refl _ _ | refine Below.alloc ?_ (by first | omega | (simp; done) | (simp; omega)) _ | refine Below.setCell ?_ (by first | omega | (simp; done) | (simp; omega)) _ | refine Below.drew ?_ | refine below_drewN ?_ _)))) (aL1h.below (by repeat (with_reducible (first | assumption | exact Below.refl _ _ | refine Below.alloc ?_ (by first | omega | (simp; done) | (simp; omega)) _ | refine Below.setCell ?_ (by first | omega | (simp; done) | (simp; omega)) _ | refine Below.drew ?_ | refine below_drewN ?_ _)))) (1048576 - (kL1.length)) _ (by first | rfl | simp) (by omega) (by omega)).mono ?_
      rintro e w2 ⟨rfl, b2⟩
      clear cpa_0 cpa_1 fpa_0 fpa_1 l_pa_0
      have z2 := b2.size
      try simp only [World.size_alloc, World.size_setCell, size_drew] at z2
      have B2 : Below w.heap.size w w2 := Below.trans (b := _) (by repeat (with_reducible (first | assumption | exact Below.refl _ _ | refine Below.alloc ?_ (by first | omega | (simp; done) | (simp; omega)) _ | refine Below.setCell ?_ (by first | omega | (simp; done) | (simp; omega)) _ | refine Below.drew ?_ | refine below_drewN ?_ _))) (b2.mono (by first | omega | (simp [size_drew]; done) | (simp [size_drew]; omega)))
      have pk_ : Box w2 (w.heap.size) #[.int .i64 kI0, (.slice kA1 kn1 kc1)] 30 := pk.below b2 (by first | omega | (simp [size_drew]; done) | (simp [size_drew]; omega))
      clear pk; have pk := pk_; clear pk_
      have pa_ : Box w2 (w.heap.size + 1) #[(.slice aA0 an0 ac0), (.slice aA1 an1 ac1)] 44 := pa.below b2 (by first | omega | (simp [size_drew]; done) | (simp [size_drew]; omega))
      clear pa; have pa := pa_; clear pa_
      have pb_ : Box w2 (w.heap.size + 1 + 1) #[(.slice bA0 bn0 bc0), (.slice bA1 bn1 bc1)] 44 := pb.below b2 (by first | omega | (simp [size_drew]; done) | (simp [size_drew]; omega))
      clear pb; have pb := pb_; clear pb_
      go_wp2
      go_ret
      exact ⟨rfl, B2⟩
  · skip
    go_enter Try.func12, Try.ntmps12
    go_wp2_with fail
    refine (szKeys_no kI0 (kL1h.below (by repeat (with_reducible (first | assumption | exact Below.refl _ _ | refine Below.alloc ?_ (by first | omega | (simp; done) | (simp; omega)) _ | refine Below.setCell ?_ (by first | omega | (simp; done) | (simp; omega)) _ | refine Below.drew ?_ | refine below_drewN ?_ _)))) (1048576) _ (by first | rfl | simp) (by omega) (by omega)).mono ?_
    rintro e w1 ⟨rfl, b1⟩
    have z1 := b1.size
    try simp only [World.size_alloc, World.size_setCell, size_drew] at z1
    have B1 : Below w.heap.size w w1 := Below.trans (b := _) (by repeat (with_reducible (first | assumption | exact Below.refl _ _ | refine Below.alloc ?_ (by first | omega | (simp; done) | (simp; omega)) _ | refine Below.setCell ?_ (by first | omega | (simp; done) | (simp; omega)) _ | refine Below.drew ?_ | refine below_drewN ?_ _))) (b1.mono (by first | omega | (simp [size_drew]; done) | (simp [size_drew]; omega)))
    have pk_ : Box w1 (w.heap.size) #[.int .i64 kI0, (.slice kA1 kn1 kc1)] 30 := (((Box.new (g := w.heap.size) _ #[.int .i64 kI0, (.slice kA1 kn1 kc1)] 30 (by simp)).alloc _).alloc _).below b1 (by first | omega | (simp [size_drew]; done) | (simp [size_drew]; omega))
    have pk := pk_; clear pk_
    have pa_ : Box w1 (w.heap.size + 1) #[(.slice aA0 an0 ac0), (.slice aA1 an1 ac1)] 44 := ((Box.new (g := w.heap.size + 1) _ #[(.slice aA0 an0 ac0), (.slice aA1 an1 ac1)] 44 (by simp)).alloc _).below b1 (by first | omega | (simp [size_drew]; done) | (simp [size_drew]; omega))
    have pa := pa_; clear pa_
    have pb_ : Box w1 (w.heap.size + 1 + 1) #[(.slice bA0 bn0 bc0), (.slice bA1 bn1 bc1)] 44 := (Box.new (g := w.heap.size + 1 + 1) _ #[(.slice bA0 bn0 bc0), (.slice bA1 bn1 bc1)] 44 (by simp)).below b1 (by first | omega | (simp [size_drew]; done) | (simp [size_drew]; omega))
    have pb := pb_; clear pb_
    go_wp2
    go_ret
    exact ⟨rfl, B1⟩
end Go.Proofs.Ytllnnbmgdbinnaa

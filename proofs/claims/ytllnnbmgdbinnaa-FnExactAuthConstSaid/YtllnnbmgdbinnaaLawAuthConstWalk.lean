/- The walk of the law FnExactAuthConst. Printed by laws2.py. -/
import Derived.Test.YtllnnbmgdbinnaaMac3
import Derived.Test.YtllnnbmgdbinnaaHk
import Derived.Test.YtllnnbmgdbinnaaReg
import Derived.Test.YtllnnbmgdbinnaaRegA
namespace Go.Proofs.Ytllnnbmgdbinnaa
set_option linter.unusedSimpArgs false
set_option linter.unusedVariables false
open Go.RowKit
set_option maxRecDepth 100000 in
set_option maxHeartbeats 2000000 in
theorem walk_FnExactAuthConst (kI0 : Int) (kL1V : Value) (kL1 : List Int) (aL0V : Value) (aL0 : List Int) (aL1V : Value) (aL1 : List Int) (cI0 : Int) (w : World) (kL1h : Rd0 w kL1V kL1) (aL0h : Rd0 w aL0V aL0) (aL1h : Rd0 w aL1V aL1) :
    Calls Try.prog 18 #[.agg #[.int .i64 kI0, kL1V], .agg #[aL0V, aL1V], .int .i64 cI0] w fun e w' => e = .returned (.bool true) ∧ Below w.heap.size w w' := by
  obtain ⟨kA1, kn1, kc1, rfl, kL1x, kL1I⟩ := kL1h
  have kL1h : Rd0 w (.slice kA1 kn1 kc1) kL1 := ⟨_, _, _, rfl, kL1x, kL1I⟩
  obtain ⟨aA0, an0, ac0, rfl, aL0x, aL0I⟩ := aL0h
  have aL0h : Rd0 w (.slice aA0 an0 ac0) aL0 := ⟨_, _, _, rfl, aL0x, aL0I⟩
  obtain ⟨aA1, an1, ac1, rfl, aL1x, aL1I⟩ := aL1h
  have aL1h : Rd0 w (.slice aA1 an1 ac1) aL1 := ⟨_, _, _, rfl, aL1x, aL1I⟩
  by_cases sz0 : (kL1.length) ≤ 1048576
  · skip
    by_cases sz1 : (kL1.length) + (aL0.length + aL1.length) ≤ 1048576
    · skip
      have kL1n : kL1.length ≤ 1048576 := by omega
      have aL0n : aL0.length ≤ 1048576 := by omega
      have aL1n : aL1.length ≤ 1048576 := by omega
      have rL0_0n : (aCoS kI0 kL1 aL0 aL1 cI0).length ≤ 1048576 := Nat.le_trans aCoS_len aL0n
      have rL0_1n : (aCoM kI0 kL1 aL0 aL1 cI0).length ≤ 1048576 := Nat.le_trans aCoM_len aL1n
      go_enter Try.func18, Try.ntmps18
      go_wp2_with fail
      refine (szKeys_yes kI0 (kL1h.below (by repeat (with_reducible (first | assumption | exact Below.refl _ _ | refine Below.alloc ?_ (by first | omega | (simp; done) | (simp; omega)) _ | refine Below.setCell ?_ (by first | omega | (simp; done) | (simp; omega)) _ | refine Below.drew ?_ | refine below_drewN ?_ _)))) (1048576) _ (by first | rfl | simp) (by omega) (by omega)).mono ?_
      rintro e w1 ⟨rfl, b1⟩
      have z1 := b1.size
      try simp only [World.size_alloc, World.size_setCell, size_drew] at z1
      have B1 : Below w.heap.size w w1 := Below.trans (b := _) (by repeat (with_reducible (first | assumption | exact Below.refl _ _ | refine Below.alloc ?_ (by first | omega | (simp; done) | (simp; omega)) _ | refine Below.setCell ?_ (by first | omega | (simp; done) | (simp; omega)) _ | refine Below.drew ?_ | refine below_drewN ?_ _))) (b1.mono (by first | omega | (simp [size_drew]; done) | (simp [size_drew]; omega)))
      have pk_ : Box w1 (w.heap.size) #[.int .i64 kI0, (.slice kA1 kn1 kc1)] 30 := ((Box.new (g := w.heap.size) _ #[.int .i64 kI0, (.slice kA1 kn1 kc1)] 30 (by simp)).alloc _).below b1 (by first | omega | (simp [size_drew]; done) | (simp [size_drew]; omega))
      have pk := pk_; clear pk_
      have pa_ : Box w1 (w.heap.size + 1) #[(.slice aA0 an0 ac0), (.slice aA1 an1 ac1)] 44 := (Box.new (g := w.heap.size + 1) _ #[(.slice aA0 an0 ac0), (.slice aA1 an1 ac1)] 44 (by simp)).below b1 (by first | omega | (simp [size_drew]; done) | (simp [size_drew]; omega))
      have pa := pa_; clear pa_
      obtain ⟨cpa_0, cpa_1, fpa_0, fpa_1⟩ := pa.two
      have l_pa_0 : w.heap.size + 1 < w1.heap.size := by omega
      go_wp2_with fail
      refine (szAuth_yes (aL0h.below (by repeat (with_reducible (first | assumption | exact Below.refl _ _ | refine Below.alloc ?_ (by first | omega | (simp; done) | (simp; omega)) _ | refine Below.setCell ?_ (by first | omega | (simp; done) | (simp; omega)) _ | refine Below.drew ?_ | refine below_drewN ?_ _)))) (aL1h.below (by repeat (with_reducible (first | assumption | exact Below.refl _ _ | refine Below.alloc ?_ (by first | omega | (simp; done) | (simp; omega)) _ | refine Below.setCell ?_ (by first | omega | (simp; done) | (simp; omega)) _ | refine Below.drew ?_ | refine below_drewN ?_ _)))) (1048576 - (kL1.length)) _ (by first | rfl | simp) (by omega) (by omega)).mono ?_
      rintro e w2 ⟨rfl, b2⟩
      clear cpa_0 cpa_1 fpa_0 fpa_1 l_pa_0
      have z2 := b2.size
      try simp only [World.size_alloc, World.size_setCell, size_drew] at z2
      have B2 : Below w.heap.size w w2 := Below.trans (b := _) (by repeat (with_reducible (first | assumption | exact Below.refl _ _ | refine Below.alloc ?_ (by first | omega | (simp; done) | (simp; omega)) _ | refine Below.setCell ?_ (by first | omega | (simp; done) | (simp; omega)) _ | refine Below.drew ?_ | refine below_drewN ?_ _))) (b2.mono (by first | omega | (simp [size_drew]; done) | (simp [size_drew]; omega)))
      have pk_ : Box w2 (w.heap.size) #[.int .i64 kI0, (.slice kA1 kn1 kc1)] 30 := pk.below b2 (by first | omega | (simp [size_drew]; done) | (simp [size_drew]; omega))
      clear pk; have pk := pk_; clear pk_
      have pa_ : Box w2 (w.heap.size + 1) #[(.slice aA0 an0 ac0), (.slice aA1 an1 ac1)] 44 := pa.below b2 (by first | omega | (simp [size_drew]; done) | (simp [size_drew]; omega))
      clear pa; have pa := pa_; clear pa_
      obtain ⟨cpk_0, cpk_1, fpk_0, fpk_1⟩ := pk.two
      have l_pk_0 : w.heap.size < w2.heap.size := by omega
      obtain ⟨cpa_0, cpa_1, fpa_0, fpa_1⟩ := pa.two
      have l_pa_0 : w.heap.size + 1 < w2.heap.size := by omega
      go_wp2_with fail
      clear cpk_0 cpk_1 fpk_0 fpk_1 l_pk_0 cpa_0 cpa_1 fpa_0 fpa_1 l_pa_0
      refine wp_region_M [7] (w2.heap.size) 8 (S := fun W => Below w.heap.size w W ∧ Below w2.heap.size w2 W ∧ W.cell? ⟨w.heap.size, 0, none⟩ = some (.int .i64 kI0) ∧ W.cell? ⟨w.heap.size, 1, none⟩ = some ((.slice kA1 kn1 kc1)) ∧ W.cell? ⟨w.heap.size + 1, 0, none⟩ = some ((.slice aA0 an0 ac0)) ∧ W.cell? ⟨w.heap.size + 1, 1, none⟩ = some ((.slice aA1 an1 ac1))) (by kernel_rfl) (by rfl) (fun W hW => ⟨Below.trans (b := _) (by repeat (with_reducible (first | assumption | exact Below.refl _ _ | refine Below.alloc ?_ (by first | omega | (simp; done) | (simp; omega)) _ | refine Below.setCell ?_ (by first | omega | (simp; done) | (simp; omega)) _ | refine Below.drew ?_ | refine below_drewN ?_ _))) (Below.mono hW (by first | omega | (simp [size_drew]; done) | (simp [size_drew]; omega))), Below.trans (b := _) (by repeat (with_reducible (first | assumption | exact Below.refl _ _ | refine Below.alloc ?_ (by first | omega | (simp; done) | (simp; omega)) _ | refine Below.setCell ?_ (by first | omega | (simp; done) | (simp; omega)) _ | refine Below.drew ?_ | refine below_drewN ?_ _))) (Below.mono hW (by first | omega | (simp [size_drew]; done) | (simp [size_drew]; omega))), (Box.below pk.drew hW (by first | omega | (simp [size_drew]; done) | (simp [size_drew]; omega))).two.1, (Box.below pk.drew hW (by first | omega | (simp [size_drew]; done) | (simp [size_drew]; omega))).two.2.1, (Box.below pa.drew hW (by first | omega | (simp [size_drew]; done) | (simp [size_drew]; omega))).two.1, (Box.below pa.drew hW (by first | omega | (simp [size_drew]; done) | (simp [size_drew]; omega))).two.2.1⟩) (by first | omega | (simp [size_drew]; done) | (simp [size_drew]; omega)) (fun hS hG => ?_)
      (try dsimp only at hS)
      refine pendM 6 8 #[.slice none 0 0, .slice none 0 0] 38 (by simp only [List.getElem?_toArray, List.getElem?_cons_succ, List.getElem?_cons_zero] <;> rfl) (by kernel_rfl) (by exact fun _ _ _ _ h => h) (by intro a W; unfold ptr; go_simp; (first | done | rfl)) hG ?_
      (refine takeM hG (i := 0) (by simp only [List.getElem?_toArray, List.getElem?_cons_succ, List.getElem?_cons_zero] <;> rfl) (by kernel_rfl) (by exact fun _ _ _ h => h) (by rfl) (by intro W hW; have hSw := hS W hW; (try dsimp only at hSw); go_simp; (first | done | with_reducible rfl | exact ⟨rfl, rfl⟩)) ?_; (try simp only [Act.put, List.setIfInBounds_toArray, List.set_cons_zero, List.set_cons_succ]))
      (refine takeM hG (i := 2) (by simp only [List.getElem?_toArray, List.getElem?_cons_succ, List.getElem?_cons_zero] <;> rfl) (by kernel_rfl) (by exact fun _ _ _ h => h) (by rfl) (by intro W hW; have hSw := hS W hW; (try dsimp only at hSw); go_simp; (first | done | with_reducible rfl | exact ⟨rfl, rfl⟩)) ?_; (try simp only [Act.put, List.setIfInBounds_toArray, List.set_cons_zero, List.set_cons_succ]))
      (refine takeM hG (i := 4) (by simp only [List.getElem?_toArray, List.getElem?_cons_succ, List.getElem?_cons_zero] <;> rfl) (by kernel_rfl) (by exact fun _ _ _ h => h) (by rfl) (by intro W hW; have hSw := hS W hW; (try dsimp only at hSw); go_simp; (first | done | with_reducible rfl | exact ⟨rfl, rfl⟩)) ?_; (try simp only [Act.put, List.setIfInBounds_toArray, List.set_cons_zero, List.set_cons_succ]))
      refine callM hG (i := 1) (by simp only [List.getElem?_toArray, List.getElem?_cons_succ, List.getElem?_cons_zero] <;> rfl) (by kernel_rfl) (by rfl) (by rfl) (by intro W hW; have hSw := hS W hW; (try dsimp only at hSw); go_simp; (first | done | with_reducible rfl | exact ⟨rfl, rfl⟩)) ?_
      intro w3 b3
      have B3 : Below w.heap.size w w3 := (hS w3 b3).1
      have z3 := Below.size b3
      (try simp only [World.size_alloc, World.size_setCell, size_drew] at z3)
      have pk_ : Box w3 (w.heap.size) #[.int .i64 kI0, (.slice kA1 kn1 kc1)] 30 := (Box.below pk.drew b3 (by first | omega | (simp [size_drew]; done) | (simp [size_drew]; omega)))
      clear pk; have pk := pk_; clear pk_
      have pa_ : Box w3 (w.heap.size + 1) #[(.slice aA0 an0 ac0), (.slice aA1 an1 ac1)] 44 := (Box.below pa.drew b3 (by first | omega | (simp [size_drew]; done) | (simp [size_drew]; omega)))
      clear pa; have pa := pa_; clear pa_
      clear hS hG
      go_at_call 35
      refine (toKeys_L kI0 (RdL.cons (d := .ints kL1) (kL1h.rd.below (by repeat (with_reducible (first | assumption | exact Below.refl _ _ | refine Below.alloc ?_ (by first | omega | (simp; done) | (simp; omega)) _ | refine Below.setCell ?_ (by first | omega | (simp; done) | (simp; omega)) _ | refine Below.drew ?_ | refine below_drewN ?_ _)))) RdL.nil) kL1n).mono ?_
      rintro e w4 ⟨skA1, skn1, skc1, rfl, rsk, b4⟩
      refine ⟨_, rfl, b4, fun hG => ?_⟩
      have z4 := Below.size b4
      have B4 : Below w.heap.size w w4 := Below.trans (b := _) (by repeat (with_reducible (first | assumption | exact Below.refl _ _ | refine Below.alloc ?_ (by first | omega | (simp; done) | (simp; omega)) _ | refine Below.setCell ?_ (by first | omega | (simp; done) | (simp; omega)) _ | refine Below.drew ?_ | refine below_drewN ?_ _))) (b4.mono (by first | omega | (simp [size_drew]; done) | (simp [size_drew]; omega)))
      have pk_ : Box w4 (w.heap.size) #[.int .i64 kI0, (.slice kA1 kn1 kc1)] 30 := (Box.below pk b4 (by first | omega | (simp [size_drew]; done) | (simp [size_drew]; omega)))
      clear pk; have pk := pk_; clear pk_
      have pa_ : Box w4 (w.heap.size + 1) #[(.slice aA0 an0 ac0), (.slice aA1 an1 ac1)] 44 := (Box.below pa b4 (by first | omega | (simp [size_drew]; done) | (simp [size_drew]; omega)))
      clear pa; have pa := pa_; clear pa_
      (try simp only [Act.put, List.setIfInBounds_toArray, List.set_cons_zero, List.set_cons_succ])
      have hS : ∀ W, Later w4 W → (Below w.heap.size w W ∧ Below w4.heap.size w4 W ∧ W.cell? ⟨w.heap.size, 0, none⟩ = some (.int .i64 kI0) ∧ W.cell? ⟨w.heap.size, 1, none⟩ = some ((.slice kA1 kn1 kc1)) ∧ W.cell? ⟨w.heap.size + 1, 0, none⟩ = some ((.slice aA0 an0 ac0)) ∧ W.cell? ⟨w.heap.size + 1, 1, none⟩ = some ((.slice aA1 an1 ac1))) := fun W hW => ⟨Below.trans (b := _) (by repeat (with_reducible (first | assumption | exact Below.refl _ _ | refine Below.alloc ?_ (by first | omega | (simp; done) | (simp; omega)) _ | refine Below.setCell ?_ (by first | omega | (simp; done) | (simp; omega)) _ | refine Below.drew ?_ | refine below_drewN ?_ _))) (Below.mono hW (by first | omega | (simp [size_drew]; done) | (simp [size_drew]; omega))), Below.trans (b := _) (by repeat (with_reducible (first | assumption | exact Below.refl _ _ | refine Below.alloc ?_ (by first | omega | (simp; done) | (simp; omega)) _ | refine Below.setCell ?_ (by first | omega | (simp; done) | (simp; omega)) _ | refine Below.drew ?_ | refine below_drewN ?_ _))) (Below.mono hW (by first | omega | (simp [size_drew]; done) | (simp [size_drew]; omega))), (Box.below pk hW (by first | omega | (simp [size_drew]; done) | (simp [size_drew]; omega))).two.1, (Box.below pk hW (by first | omega | (simp [size_drew]; done) | (simp [size_drew]; omega))).two.2.1, (Box.below pa hW (by first | omega | (simp [size_drew]; done) | (simp [size_drew]; omega))).two.1, (Box.below pa hW (by first | omega | (simp [size_drew]; done) | (simp [size_drew]; omega))).two.2.1⟩
      refine callM hG (i := 3) (by simp only [List.getElem?_toArray, List.getElem?_cons_succ, List.getElem?_cons_zero] <;> rfl) (by kernel_rfl) (by rfl) (by rfl) (by intro W hW; have hSw := hS W hW; (try dsimp only at hSw); go_simp; (first | done | with_reducible rfl | exact ⟨rfl, rfl⟩)) ?_
      intro w5 b5
      have B5 : Below w.heap.size w w5 := (hS w5 b5).1
      have z5 := Below.size b5
      (try simp only [World.size_alloc, World.size_setCell, size_drew] at z5)
      have rsk_ := (rsk.below b5)
      clear rsk; have rsk := rsk_; clear rsk_
      have pk_ : Box w5 (w.heap.size) #[.int .i64 kI0, (.slice kA1 kn1 kc1)] 30 := (Box.below pk b5 (by first | omega | (simp [size_drew]; done) | (simp [size_drew]; omega)))
      clear pk; have pk := pk_; clear pk_
      have pa_ : Box w5 (w.heap.size + 1) #[(.slice aA0 an0 ac0), (.slice aA1 an1 ac1)] 44 := (Box.below pa b5 (by first | omega | (simp [size_drew]; done) | (simp [size_drew]; omega)))
      clear pa; have pa := pa_; clear pa_
      clear hS hG
      go_at_call 42
      refine (toAuth_L (RdL.cons (d := .ints aL0) (aL0h.rd.below (by repeat (with_reducible (first | assumption | exact Below.refl _ _ | refine Below.alloc ?_ (by first | omega | (simp; done) | (simp; omega)) _ | refine Below.setCell ?_ (by first | omega | (simp; done) | (simp; omega)) _ | refine Below.drew ?_ | refine below_drewN ?_ _)))) (RdL.cons (d := .ints aL1) (aL1h.rd.below (by repeat (with_reducible (first | assumption | exact Below.refl _ _ | refine Below.alloc ?_ (by first | omega | (simp; done) | (simp; omega)) _ | refine Below.setCell ?_ (by first | omega | (simp; done) | (simp; omega)) _ | refine Below.drew ?_ | refine below_drewN ?_ _)))) RdL.nil)) aL0n aL1n).mono ?_
      rintro e w6 ⟨saA0, san0, sac0, saA1, san1, sac1, rfl, rsa, b6⟩
      refine ⟨_, rfl, b6, fun hG => ?_⟩
      have z6 := Below.size b6
      have B6 : Below w.heap.size w w6 := Below.trans (b := _) (by repeat (with_reducible (first | assumption | exact Below.refl _ _ | refine Below.alloc ?_ (by first | omega | (simp; done) | (simp; omega)) _ | refine Below.setCell ?_ (by first | omega | (simp; done) | (simp; omega)) _ | refine Below.drew ?_ | refine below_drewN ?_ _))) (b6.mono (by first | omega | (simp [size_drew]; done) | (simp [size_drew]; omega)))
      have rsk_ := (rsk.below b6)
      clear rsk; have rsk := rsk_; clear rsk_
      have pk_ : Box w6 (w.heap.size) #[.int .i64 kI0, (.slice kA1 kn1 kc1)] 30 := (Box.below pk b6 (by first | omega | (simp [size_drew]; done) | (simp [size_drew]; omega)))
      clear pk; have pk := pk_; clear pk_
      have pa_ : Box w6 (w.heap.size + 1) #[(.slice aA0 an0 ac0), (.slice aA1 an1 ac1)] 44 := (Box.below pa b6 (by first | omega | (simp [size_drew]; done) | (simp [size_drew]; omega)))
      clear pa; have pa := pa_; clear pa_
      (try simp only [Act.put, List.setIfInBounds_toArray, List.set_cons_zero, List.set_cons_succ])
      have hS : ∀ W, Later w6 W → (Below w.heap.size w W ∧ Below w6.heap.size w6 W ∧ W.cell? ⟨w.heap.size, 0, none⟩ = some (.int .i64 kI0) ∧ W.cell? ⟨w.heap.size, 1, none⟩ = some ((.slice kA1 kn1 kc1)) ∧ W.cell? ⟨w.heap.size + 1, 0, none⟩ = some ((.slice aA0 an0 ac0)) ∧ W.cell? ⟨w.heap.size + 1, 1, none⟩ = some ((.slice aA1 an1 ac1))) := fun W hW => ⟨Below.trans (b := _) (by repeat (with_reducible (first | assumption | exact Below.refl _ _ | refine Below.alloc ?_ (by first | omega | (simp; done) | (simp; omega)) _ | refine Below.setCell ?_ (by first | omega | (simp; done) | (simp; omega)) _ | refine Below.drew ?_ | refine below_drewN ?_ _))) (Below.mono hW (by first | omega | (simp [size_drew]; done) | (simp [size_drew]; omega))), Below.trans (b := _) (by repeat (with_reducible (first | assumption | exact Below.refl _ _ | refine Below.alloc ?_ (by first | omega | (simp; done) | (simp; omega)) _ | refine Below.setCell ?_ (by first | omega | (simp; done) | (simp; omega)) _ | refine Below.drew ?_ | refine below_drewN ?_ _))) (Below.mono hW (by first | omega | (simp [size_drew]; done) | (simp [size_drew]; omega))), (Box.below pk hW (by first | omega | (simp [size_drew]; done) | (simp [size_drew]; omega))).two.1, (Box.below pk hW (by first | omega | (simp [size_drew]; done) | (simp [size_drew]; omega))).two.2.1, (Box.below pa hW (by first | omega | (simp [size_drew]; done) | (simp [size_drew]; omega))).two.1, (Box.below pa hW (by first | omega | (simp [size_drew]; done) | (simp [size_drew]; omega))).two.2.1⟩
      refine callM hG (i := 5) (by simp only [List.getElem?_toArray, List.getElem?_cons_succ, List.getElem?_cons_zero] <;> rfl) (by kernel_rfl) (by rfl) (by rfl) (by intro W hW; have hSw := hS W hW; (try dsimp only at hSw); go_simp; (first | done | with_reducible rfl | exact ⟨rfl, rfl⟩)) ?_
      intro w7 b7
      have B7 : Below w.heap.size w w7 := (hS w7 b7).1
      have z7 := Below.size b7
      (try simp only [World.size_alloc, World.size_setCell, size_drew] at z7)
      have rsk_ := (rsk.below b7)
      clear rsk; have rsk := rsk_; clear rsk_
      have rsa_ := (rsa.below b7)
      clear rsa; have rsa := rsa_; clear rsa_
      have pk_ : Box w7 (w.heap.size) #[.int .i64 kI0, (.slice kA1 kn1 kc1)] 30 := (Box.below pk b7 (by first | omega | (simp [size_drew]; done) | (simp [size_drew]; omega)))
      clear pk; have pk := pk_; clear pk_
      have pa_ : Box w7 (w.heap.size + 1) #[(.slice aA0 an0 ac0), (.slice aA1 an1 ac1)] 44 := (Box.below pa b7 (by first | omega | (simp [size_drew]; done) | (simp [size_drew]; omega)))
      clear pa; have pa := pa_; clear pa_
      clear hS hG
      go_at_call 74
      refine (sAuthConst_L kI0 rsk.rd kL1n rsa.rd aL0n aL1n cI0).mono ?_
      rintro e w8 ⟨w0A0, w0n0, w0c0, w0A1, w0n1, w0c1, rfl, rw0, b8⟩
      refine ⟨_, rfl, b8, fun hG => ?_⟩
      have z8 := Below.size b8
      have B8 : Below w.heap.size w w8 := Below.trans (b := _) (by repeat (with_reducible (first | assumption | exact Below.refl _ _ | refine Below.alloc ?_ (by first | omega | (simp; done) | (simp; omega)) _ | refine Below.setCell ?_ (by first | omega | (simp; done) | (simp; omega)) _ | refine Below.drew ?_ | refine below_drewN ?_ _))) (b8.mono (by first | omega | (simp [size_drew]; done) | (simp [size_drew]; omega)))
      have rsk_ := (rsk.below b8)
      clear rsk; have rsk := rsk_; clear rsk_
      have rsa_ := (rsa.below b8)
      clear rsa; have rsa := rsa_; clear rsa_
      have pk_ : Box w8 (w.heap.size) #[.int .i64 kI0, (.slice kA1 kn1 kc1)] 30 := (Box.below pk b8 (by first | omega | (simp [size_drew]; done) | (simp [size_drew]; omega)))
      clear pk; have pk := pk_; clear pk_
      have pa_ : Box w8 (w.heap.size + 1) #[(.slice aA0 an0 ac0), (.slice aA1 an1 ac1)] 44 := (Box.below pa b8 (by first | omega | (simp [size_drew]; done) | (simp [size_drew]; omega)))
      clear pa; have pa := pa_; clear pa_
      (try simp only [Act.put, List.setIfInBounds_toArray, List.set_cons_zero, List.set_cons_succ])
      have hS : ∀ W, Later w8 W → (Below w.heap.size w W ∧ Below w8.heap.size w8 W ∧ W.cell? ⟨w.heap.size, 0, none⟩ = some (.int .i64 kI0) ∧ W.cell? ⟨w.heap.size, 1, none⟩ = some ((.slice kA1 kn1 kc1)) ∧ W.cell? ⟨w.heap.size + 1, 0, none⟩ = some ((.slice aA0 an0 ac0)) ∧ W.cell? ⟨w.heap.size + 1, 1, none⟩ = some ((.slice aA1 an1 ac1))) := fun W hW => ⟨Below.trans (b := _) (by repeat (with_reducible (first | assumption | exact Below.refl _ _ | refine Below.alloc ?_ (by first | omega | (simp; done) | (simp; omega)) _ | refine Below.setCell ?_ (by first | omega | (simp; done) | (simp; omega)) _ | refine Below.drew ?_ | refine below_drewN ?_ _))) (Below.mono hW (by first | omega | (simp [size_drew]; done) | (simp [size_drew]; omega))), Below.trans (b := _) (by repeat (with_reducible (first | assumption | exact Below.refl _ _ | refine Below.alloc ?_ (by first | omega | (simp; done) | (simp; omega)) _ | refine Below.setCell ?_ (by first | omega | (simp; done) | (simp; omega)) _ | refine Below.drew ?_ | refine below_drewN ?_ _))) (Below.mono hW (by first | omega | (simp [size_drew]; done) | (simp [size_drew]; omega))), (Box.below pk hW (by first | omega | (simp [size_drew]; done) | (simp [size_drew]; omega))).two.1, (Box.below pk hW (by first | omega | (simp [size_drew]; done) | (simp [size_drew]; omega))).two.2.1, (Box.below pa hW (by first | omega | (simp [size_drew]; done) | (simp [size_drew]; omega))).two.1, (Box.below pa hW (by first | omega | (simp [size_drew]; done) | (simp [size_drew]; omega))).two.2.1⟩
      refine storeM (z := 7) (by simp only [List.getElem?_toArray, List.getElem?_cons_succ, List.getElem?_cons_zero] <;> rfl) (by kernel_rfl) (by rfl) (by rfl) ?_
      intro w9 b9
      have B9 : Below w.heap.size w w9 := (hS w9 b9).1
      have z9 := Below.size b9
      (try simp only [World.size_alloc, World.size_setCell, size_drew] at z9)
      have rsk_ := (rsk.below b9)
      clear rsk; have rsk := rsk_; clear rsk_
      have rsa_ := (rsa.below b9)
      clear rsa; have rsa := rsa_; clear rsa_
      have rw0_ := (rw0.below b9)
      clear rw0; have rw0 := rw0_; clear rw0_
      have pk_ : Box w9 (w.heap.size) #[.int .i64 kI0, (.slice kA1 kn1 kc1)] 30 := (Box.below pk b9 (by first | omega | (simp [size_drew]; done) | (simp [size_drew]; omega)))
      clear pk; have pk := pk_; clear pk_
      have pa_ : Box w9 (w.heap.size + 1) #[(.slice aA0 an0 ac0), (.slice aA1 an1 ac1)] 44 := (Box.below pa b9 (by first | omega | (simp [size_drew]; done) | (simp [size_drew]; omega)))
      clear pa; have pa := pa_; clear pa_
      clear hS hG
      refine Zc.cons fun gkw0 kw0 nkw0 => ?_
      have nkw0_0 := nkw0 (w7.heap.size, w8.heap.size) (by simp)
      dsimp only at nkw0_0 kw0
      have nkw0_1 := nkw0 (w5.heap.size, w6.heap.size) (by simp)
      dsimp only at nkw0_1 kw0
      have nkw0_2 := nkw0 (w3.heap.size, w4.heap.size) (by simp)
      dsimp only at nkw0_2 kw0
      have nkw0_3 := nkw0 (0, w2.heap.size) (by simp)
      dsimp only at nkw0_3 kw0
      clear nkw0
      refine Zc.nil ?_
      (try unfold ptr)
      (try simp only [Act.put, List.setIfInBounds_toArray, List.set_cons_zero, List.set_cons_succ])
      have lkw0 := kw0.lt
      obtain ⟨ckw0_0, ckw0_1, fkw0_0, fkw0_1⟩ := kw0.two
      refine ⟨_, by go_simp; (first | done | with_reducible rfl | exact ⟨rfl, rfl⟩), ?_⟩
      (try simp only [Act.put, List.setIfInBounds_toArray, List.set_cons_zero, List.set_cons_succ])
      refine wpAny_done (by kernel_rfl) ?_ _
      clear ckw0_0 ckw0_1 fkw0_0 fkw0_1
      generalize hw10 : World.setCell _ _ _ = w10
      have z10 : w9.heap.size ≤ w10.heap.size := by rw [← hw10]; simp
      have B10 : Below w.heap.size w w10 := by rw [← hw10]; repeat (with_reducible (first | assumption | exact Below.refl _ _ | refine Below.alloc ?_ (by first | omega | (simp; done) | (simp; omega)) _ | refine Below.setCell ?_ (by first | omega | (simp; done) | (simp; omega)) _ | refine Below.drew ?_ | refine below_drewN ?_ _))
      have hK : ∀ k, k ≠ gkw0 → k < w9.heap.size → w10.heap[k]? = w9.heap[k]? := by
        intro k h0 _; rw [← hw10]
        repeat (first | rfl | refine (Below.heap_setCell _ _ _ _ (by first | exact h0)).trans ?_)
      have rsk_ := rsk.keepBlock z10 (fun k h1 h2 => hK k (by omega) (by have := rsk.2.1; omega))
      clear rsk; have rsk := rsk_; clear rsk_
      have rsa_ := rsa.keepBlock z10 (fun k h1 h2 => hK k (by omega) (by have := rsa.2.1; omega))
      clear rsa; have rsa := rsa_; clear rsa_
      have rw0_ := rw0.keepBlock z10 (fun k h1 h2 => hK k (by omega) (by have := rw0.2.1; omega))
      clear rw0; have rw0 := rw0_; clear rw0_
      have pk_ : Box w10 (w.heap.size) #[.int .i64 kI0, (.slice kA1 kn1 kc1)] 30 := (by rw [← hw10]; exact ((pk.far (by omega)).far (by omega)))
      clear pk; have pk := pk_; clear pk_
      have pa_ : Box w10 (w.heap.size + 1) #[(.slice aA0 an0 ac0), (.slice aA1 an1 ac1)] 44 := (by rw [← hw10]; exact ((pa.far (by omega)).far (by omega)))
      clear pa; have pa := pa_; clear pa_
      have kw0_ : Box w10 (gkw0) #[(.slice w0A0 w0n0 w0c0), (.slice w0A1 w0n1 w0c1)] 38 := (by rw [← hw10]; exact ((kw0.setAt (i := 0) (v := (.slice w0A0 w0n0 w0c0)) (ds := #[(.slice w0A0 w0n0 w0c0), .slice none 0 0]) (by simp)).setAt (i := 1) (v := (.slice w0A1 w0n1 w0c1)) (ds := #[(.slice w0A0 w0n0 w0c0), (.slice w0A1 w0n1 w0c1)]) (by simp)))
      clear kw0; have kw0 := kw0_; clear kw0_
      clear hw10 hK
      obtain ⟨cpk_0, cpk_1, fpk_0, fpk_1⟩ := pk.two
      have l_pk_0 : w.heap.size < w10.heap.size := by omega
      go_wp2_with fail
      refine (toKeys_L kI0 (RdL.cons (d := .ints kL1) (kL1h.rd.below (by repeat (with_reducible (first | assumption | exact Below.refl _ _ | refine Below.alloc ?_ (by first | omega | (simp; done) | (simp; omega)) _ | refine Below.setCell ?_ (by first | omega | (simp; done) | (simp; omega)) _ | refine Below.drew ?_ | refine below_drewN ?_ _)))) RdL.nil) kL1n).mono ?_
      rintro e w11 ⟨xkA1, xkn1, xkc1, rfl, rxk, b11⟩
      clear cpk_0 cpk_1 fpk_0 fpk_1 l_pk_0
      have z11 := b11.size
      try simp only [World.size_alloc, World.size_setCell, size_drew] at z11
      have B11 : Below w.heap.size w w11 := Below.trans (b := _) (by repeat (with_reducible (first | assumption | exact Below.refl _ _ | refine Below.alloc ?_ (by first | omega | (simp; done) | (simp; omega)) _ | refine Below.setCell ?_ (by first | omega | (simp; done) | (simp; omega)) _ | refine Below.drew ?_ | refine below_drewN ?_ _))) (b11.mono (by first | omega | (simp [size_drew]; done) | (simp [size_drew]; omega)))
      have rw0_ := rw0.below b11
      clear rw0; have rw0 := rw0_; clear rw0_
      have pk_ : Box w11 (w.heap.size) #[.int .i64 kI0, (.slice kA1 kn1 kc1)] 30 := pk.below b11 (by first | omega | (simp [size_drew]; done) | (simp [size_drew]; omega))
      clear pk; have pk := pk_; clear pk_
      have pa_ : Box w11 (w.heap.size + 1) #[(.slice aA0 an0 ac0), (.slice aA1 an1 ac1)] 44 := pa.below b11 (by first | omega | (simp [size_drew]; done) | (simp [size_drew]; omega))
      clear pa; have pa := pa_; clear pa_
      have kw0_ : Box w11 (gkw0) #[(.slice w0A0 w0n0 w0c0), (.slice w0A1 w0n1 w0c1)] 38 := kw0.below b11 (by first | omega | (simp [size_drew]; done) | (simp [size_drew]; omega))
      clear kw0; have kw0 := kw0_; clear kw0_
      try simp only [World.size_alloc, World.size_setCell, size_drew] at rxk
      obtain ⟨cpa_0, cpa_1, fpa_0, fpa_1⟩ := pa.two
      have l_pa_0 : w.heap.size + 1 < w11.heap.size := by omega
      have l_pa_1 : w.heap.size + 1 < w11.heap.size + 1 := by omega
      go_wp2_with fail
      refine (toAuth_L (RdL.cons (d := .ints aL0) (aL0h.rd.below (by repeat (with_reducible (first | assumption | exact Below.refl _ _ | refine Below.alloc ?_ (by first | omega | (simp; done) | (simp; omega)) _ | refine Below.setCell ?_ (by first | omega | (simp; done) | (simp; omega)) _ | refine Below.drew ?_ | refine below_drewN ?_ _)))) (RdL.cons (d := .ints aL1) (aL1h.rd.below (by repeat (with_reducible (first | assumption | exact Below.refl _ _ | refine Below.alloc ?_ (by first | omega | (simp; done) | (simp; omega)) _ | refine Below.setCell ?_ (by first | omega | (simp; done) | (simp; omega)) _ | refine Below.drew ?_ | refine below_drewN ?_ _)))) RdL.nil)) aL0n aL1n).mono ?_
      rintro e w12 ⟨xaA0, xan0, xac0, xaA1, xan1, xac1, rfl, rxa, b12⟩
      clear cpa_0 cpa_1 fpa_0 fpa_1 l_pa_0 l_pa_1
      have z12 := b12.size
      try simp only [World.size_alloc, World.size_setCell, size_drew] at z12
      have B12 : Below w.heap.size w w12 := Below.trans (b := _) (by repeat (with_reducible (first | assumption | exact Below.refl _ _ | refine Below.alloc ?_ (by first | omega | (simp; done) | (simp; omega)) _ | refine Below.setCell ?_ (by first | omega | (simp; done) | (simp; omega)) _ | refine Below.drew ?_ | refine below_drewN ?_ _))) (b12.mono (by first | omega | (simp [size_drew]; done) | (simp [size_drew]; omega)))
      have rw0_ := (rw0.alloc _).below b12
      clear rw0; have rw0 := rw0_; clear rw0_
      have rxk_ := (rxk.alloc _).below b12
      clear rxk; have rxk := rxk_; clear rxk_
      have pk_ : Box w12 (w.heap.size) #[.int .i64 kI0, (.slice kA1 kn1 kc1)] 30 := (pk.alloc _).below b12 (by first | omega | (simp [size_drew]; done) | (simp [size_drew]; omega))
      clear pk; have pk := pk_; clear pk_
      have pa_ : Box w12 (w.heap.size + 1) #[(.slice aA0 an0 ac0), (.slice aA1 an1 ac1)] 44 := (pa.alloc _).below b12 (by first | omega | (simp [size_drew]; done) | (simp [size_drew]; omega))
      clear pa; have pa := pa_; clear pa_
      have kw0_ : Box w12 (gkw0) #[(.slice w0A0 w0n0 w0c0), (.slice w0A1 w0n1 w0c1)] 38 := (kw0.alloc _).below b12 (by first | omega | (simp [size_drew]; done) | (simp [size_drew]; omega))
      clear kw0; have kw0 := kw0_; clear kw0_
      have xk_ : Box w12 (w11.heap.size) #[.int .i64 kI0, (.slice xkA1 xkn1 xkc1)] 33 := (Box.new (g := w11.heap.size) _ #[.int .i64 kI0, (.slice xkA1 xkn1 xkc1)] 33 (by simp)).below b12 (by first | omega | (simp [size_drew]; done) | (simp [size_drew]; omega))
      have xk := xk_; clear xk_
      try simp only [World.size_alloc, World.size_setCell, size_drew] at rxa
      obtain ⟨cxk_0, cxk_1, fxk_0, fxk_1⟩ := xk.two
      have l_xk_0 : w11.heap.size < w12.heap.size := by omega
      have l_xk_1 : w11.heap.size < w12.heap.size + 1 := by omega
      go_wp2_with fail
      refine (iAuthConst_L kI0 (rxk.alloc _).rd kL1n (rxa.alloc _).rd aL0n aL1n cI0).mono ?_
      rintro e w13 ⟨g0A0, g0n0, g0c0, g0A1, g0n1, g0c1, rfl, rg0, b13⟩
      clear cxk_0 cxk_1 fxk_0 fxk_1 l_xk_0 l_xk_1
      have z13 := b13.size
      try simp only [World.size_alloc, World.size_setCell, size_drew] at z13
      have B13 : Below w.heap.size w w13 := Below.trans (b := _) (by repeat (with_reducible (first | assumption | exact Below.refl _ _ | refine Below.alloc ?_ (by first | omega | (simp; done) | (simp; omega)) _ | refine Below.setCell ?_ (by first | omega | (simp; done) | (simp; omega)) _ | refine Below.drew ?_ | refine below_drewN ?_ _))) (b13.mono (by first | omega | (simp [size_drew]; done) | (simp [size_drew]; omega)))
      have rw0_ := (rw0.alloc _).below b13
      clear rw0; have rw0 := rw0_; clear rw0_
      have rxk_ := (rxk.alloc _).below b13
      clear rxk; have rxk := rxk_; clear rxk_
      have rxa_ := (rxa.alloc _).below b13
      clear rxa; have rxa := rxa_; clear rxa_
      have pk_ : Box w13 (w.heap.size) #[.int .i64 kI0, (.slice kA1 kn1 kc1)] 30 := (pk.alloc _).below b13 (by first | omega | (simp [size_drew]; done) | (simp [size_drew]; omega))
      clear pk; have pk := pk_; clear pk_
      have pa_ : Box w13 (w.heap.size + 1) #[(.slice aA0 an0 ac0), (.slice aA1 an1 ac1)] 44 := (pa.alloc _).below b13 (by first | omega | (simp [size_drew]; done) | (simp [size_drew]; omega))
      clear pa; have pa := pa_; clear pa_
      have kw0_ : Box w13 (gkw0) #[(.slice w0A0 w0n0 w0c0), (.slice w0A1 w0n1 w0c1)] 38 := (kw0.alloc _).below b13 (by first | omega | (simp [size_drew]; done) | (simp [size_drew]; omega))
      clear kw0; have kw0 := kw0_; clear kw0_
      have xk_ : Box w13 (w11.heap.size) #[.int .i64 kI0, (.slice xkA1 xkn1 xkc1)] 33 := (xk.alloc _).below b13 (by first | omega | (simp [size_drew]; done) | (simp [size_drew]; omega))
      clear xk; have xk := xk_; clear xk_
      have xa_ : Box w13 (w12.heap.size) #[(.slice xaA0 xan0 xac0), (.slice xaA1 xan1 xac1)] 38 := (Box.new (g := w12.heap.size) _ #[(.slice xaA0 xan0 xac0), (.slice xaA1 xan1 xac1)] 38 (by simp)).below b13 (by first | omega | (simp [size_drew]; done) | (simp [size_drew]; omega))
      have xa := xa_; clear xa_
      try simp only [World.size_alloc, World.size_setCell, size_drew] at rg0
      obtain ⟨ckw0_0, ckw0_1, fkw0_0, fkw0_1⟩ := kw0.two
      have l_kw0_0 : gkw0 < w13.heap.size := by omega
      have l_kw0_1 : gkw0 < w13.heap.size + 1 := by omega
      go_wp2_with fail
      refine (eqAuth_L (rg0.alloc _).rd (rw0.alloc _).rd rL0_0n rL0_1n).mono ?_
      rintro e w14 ⟨rfl, b14⟩
      clear ckw0_0 ckw0_1 fkw0_0 fkw0_1 l_kw0_0 l_kw0_1
      have z14 := b14.size
      try simp only [World.size_alloc, World.size_setCell, size_drew] at z14
      have B14 : Below w.heap.size w w14 := Below.trans (b := _) (by repeat (with_reducible (first | assumption | exact Below.refl _ _ | refine Below.alloc ?_ (by first | omega | (simp; done) | (simp; omega)) _ | refine Below.setCell ?_ (by first | omega | (simp; done) | (simp; omega)) _ | refine Below.drew ?_ | refine below_drewN ?_ _))) (b14.mono (by first | omega | (simp [size_drew]; done) | (simp [size_drew]; omega)))
      have rw0_ := (rw0.alloc _).below b14
      clear rw0; have rw0 := rw0_; clear rw0_
      have rxk_ := (rxk.alloc _).below b14
      clear rxk; have rxk := rxk_; clear rxk_
      have rxa_ := (rxa.alloc _).below b14
      clear rxa; have rxa := rxa_; clear rxa_
      have rg0_ := (rg0.alloc _).below b14
      clear rg0; have rg0 := rg0_; clear rg0_
      have pk_ : Box w14 (w.heap.size) #[.int .i64 kI0, (.slice kA1 kn1 kc1)] 30 := (pk.alloc _).below b14 (by first | omega | (simp [size_drew]; done) | (simp [size_drew]; omega))
      clear pk; have pk := pk_; clear pk_
      have pa_ : Box w14 (w.heap.size + 1) #[(.slice aA0 an0 ac0), (.slice aA1 an1 ac1)] 44 := (pa.alloc _).below b14 (by first | omega | (simp [size_drew]; done) | (simp [size_drew]; omega))
      clear pa; have pa := pa_; clear pa_
      have kw0_ : Box w14 (gkw0) #[(.slice w0A0 w0n0 w0c0), (.slice w0A1 w0n1 w0c1)] 38 := (kw0.alloc _).below b14 (by first | omega | (simp [size_drew]; done) | (simp [size_drew]; omega))
      clear kw0; have kw0 := kw0_; clear kw0_
      have xk_ : Box w14 (w11.heap.size) #[.int .i64 kI0, (.slice xkA1 xkn1 xkc1)] 33 := (xk.alloc _).below b14 (by first | omega | (simp [size_drew]; done) | (simp [size_drew]; omega))
      clear xk; have xk := xk_; clear xk_
      have xa_ : Box w14 (w12.heap.size) #[(.slice xaA0 xan0 xac0), (.slice xaA1 xan1 xac1)] 38 := (xa.alloc _).below b14 (by first | omega | (simp [size_drew]; done) | (simp [size_drew]; omega))
      clear xa; have xa := xa_; clear xa_
      have kg0_ : Box w14 (w13.heap.size) #[(.slice g0A0 g0n0 g0c0), (.slice g0A1 g0n1 g0c1)] 38 := (Box.new (g := w13.heap.size) _ #[(.slice g0A0 g0n0 g0c0), (.slice g0A1 g0n1 g0c1)] 38 (by simp)).below b14 (by first | omega | (simp [size_drew]; done) | (simp [size_drew]; omega))
      have kg0 := kg0_; clear kg0_
      obtain ⟨cpk_0, cpk_1, fpk_0, fpk_1⟩ := pk.two
      have l_pk_0 : w.heap.size < w14.heap.size := by omega
      obtain ⟨cxk_0, cxk_1, fxk_0, fxk_1⟩ := xk.two
      have l_xk_0 : w11.heap.size < w14.heap.size := by omega
      go_wp2_with fail
      clear cpk_0 cpk_1 fpk_0 fpk_1 l_pk_0 cxk_0 cxk_1 fxk_0 fxk_1 l_xk_0
      refine wp_region_held_drew (S := fun W => W.cell? ⟨w.heap.size, 0, none⟩ = some (.int .i64 kI0) ∧ W.cell? ⟨w.heap.size, 1, none⟩ = some ((.slice kA1 kn1 kc1)) ∧ W.cell? ⟨w11.heap.size, 0, none⟩ = some (.int .i64 kI0) ∧ W.cell? ⟨w11.heap.size, 1, none⟩ = some ((.slice xkA1 xkn1 xkc1))) (by kernel_rfl) ⟨pk.drew.two.1, pk.drew.two.2.1, xk.drew.two.1, xk.drew.two.2.1⟩ (fun hS => ?_)
      (refine takeH (i := 0) (by simp only [List.getElem?_toArray, List.getElem?_cons_succ, List.getElem?_cons_zero] <;> rfl) (by kernel_rfl) (by kernel_rfl) (by kernel_rfl) (by exact fun _ _ _ h => h) (by rfl) (by intro W hSw; (try dsimp only at hSw); go_simp; (first | done | with_reducible rfl)) (by assumption) ?_; (try simp only [Act.put, List.setIfInBounds_toArray, List.set_cons_zero, List.set_cons_succ]))
      (refine takeH (i := 1) (by simp only [List.getElem?_toArray, List.getElem?_cons_succ, List.getElem?_cons_zero] <;> rfl) (by kernel_rfl) (by kernel_rfl) (by kernel_rfl) (by exact fun _ _ _ h => h) (by rfl) (by intro W hSw; (try dsimp only at hSw); go_simp; (first | done | with_reducible rfl)) (by assumption) ?_; (try simp only [Act.put, List.setIfInBounds_toArray, List.set_cons_zero, List.set_cons_succ]))
      refine onlyH (i := 2) (by simp only [List.getElem?_toArray, List.getElem?_cons_succ, List.getElem?_cons_zero] <;> rfl) (by kernel_rfl) (by rfl) ?_
      refine callH (by go_simp; (first | done | with_reducible rfl | exact ⟨rfl, rfl⟩)) ?_
      go_at_call 35
      refine (toKeys_L kI0 (RdL.cons (d := .ints kL1) (kL1h.rd.below (by repeat (with_reducible (first | assumption | exact Below.refl _ _ | refine Below.alloc ?_ (by first | omega | (simp; done) | (simp; omega)) _ | refine Below.setCell ?_ (by first | omega | (simp; done) | (simp; omega)) _ | refine Below.drew ?_ | refine below_drewN ?_ _)))) RdL.nil) kL1n).mono ?_
      rintro e w15 ⟨zkA1, zkn1, zkc1, rfl, rzk, b15⟩
      clear hS
      have z15 := Below.size b15
      (try simp only [World.size_alloc, World.size_setCell, size_drew] at z15)
      have B15 : Below w.heap.size w w15 := Below.trans (b := _) (by repeat (with_reducible (first | assumption | exact Below.refl _ _ | refine Below.alloc ?_ (by first | omega | (simp; done) | (simp; omega)) _ | refine Below.setCell ?_ (by first | omega | (simp; done) | (simp; omega)) _ | refine Below.drew ?_ | refine below_drewN ?_ _))) (b15.mono (by first | omega | (simp [size_drew]; done) | (simp [size_drew]; omega)))
      have rw0_ := (rw0.drew.below b15)
      clear rw0; have rw0 := rw0_; clear rw0_
      have rxk_ := (rxk.drew.below b15)
      clear rxk; have rxk := rxk_; clear rxk_
      have rxa_ := (rxa.drew.below b15)
      clear rxa; have rxa := rxa_; clear rxa_
      have rg0_ := (rg0.drew.below b15)
      clear rg0; have rg0 := rg0_; clear rg0_
      have pk_ : Box w15 (w.heap.size) #[.int .i64 kI0, (.slice kA1 kn1 kc1)] 30 := (Box.below pk.drew b15 (by first | omega | (simp [size_drew]; done) | (simp [size_drew]; omega)))
      clear pk; have pk := pk_; clear pk_
      have pa_ : Box w15 (w.heap.size + 1) #[(.slice aA0 an0 ac0), (.slice aA1 an1 ac1)] 44 := (Box.below pa.drew b15 (by first | omega | (simp [size_drew]; done) | (simp [size_drew]; omega)))
      clear pa; have pa := pa_; clear pa_
      have kw0_ : Box w15 (gkw0) #[(.slice w0A0 w0n0 w0c0), (.slice w0A1 w0n1 w0c1)] 38 := (Box.below kw0.drew b15 (by first | omega | (simp [size_drew]; done) | (simp [size_drew]; omega)))
      clear kw0; have kw0 := kw0_; clear kw0_
      have xk_ : Box w15 (w11.heap.size) #[.int .i64 kI0, (.slice xkA1 xkn1 xkc1)] 33 := (Box.below xk.drew b15 (by first | omega | (simp [size_drew]; done) | (simp [size_drew]; omega)))
      clear xk; have xk := xk_; clear xk_
      have xa_ : Box w15 (w12.heap.size) #[(.slice xaA0 xan0 xac0), (.slice xaA1 xan1 xac1)] 38 := (Box.below xa.drew b15 (by first | omega | (simp [size_drew]; done) | (simp [size_drew]; omega)))
      clear xa; have xa := xa_; clear xa_
      have kg0_ : Box w15 (w13.heap.size) #[(.slice g0A0 g0n0 g0c0), (.slice g0A1 g0n1 g0c1)] 38 := (Box.below kg0.drew b15 (by first | omega | (simp [size_drew]; done) | (simp [size_drew]; omega)))
      clear kg0; have kg0 := kg0_; clear kg0_
      (try simp only [World.size_alloc, World.size_setCell, size_drew] at rzk)
      refine ⟨_, rfl, ⟨pk.two.1, pk.two.2.1, xk.two.1, xk.two.2.1⟩, fun hS => ?_⟩
      (try simp only [Act.put, List.setIfInBounds_toArray, List.set_cons_zero, List.set_cons_succ])
      refine onlyH (i := 3) (by simp only [List.getElem?_toArray, List.getElem?_cons_succ, List.getElem?_cons_zero] <;> rfl) (by kernel_rfl) (by rfl) ?_
      refine callH (by go_simp; (first | done | with_reducible rfl | exact ⟨rfl, rfl⟩)) ?_
      go_at_call 37
      refine (eqKeys_L kI0 rxk.rd rzk.rd kL1n).mono ?_
      rintro e w16 ⟨rfl, b16⟩
      clear hS
      have z16 := Below.size b16
      (try simp only [World.size_alloc, World.size_setCell, size_drew] at z16)
      have B16 : Below w.heap.size w w16 := Below.trans (b := _) (by repeat (with_reducible (first | assumption | exact Below.refl _ _ | refine Below.alloc ?_ (by first | omega | (simp; done) | (simp; omega)) _ | refine Below.setCell ?_ (by first | omega | (simp; done) | (simp; omega)) _ | refine Below.drew ?_ | refine below_drewN ?_ _))) (b16.mono (by first | omega | (simp [size_drew]; done) | (simp [size_drew]; omega)))
      have rw0_ := (rw0.below b16)
      clear rw0; have rw0 := rw0_; clear rw0_
      have rxk_ := (rxk.below b16)
      clear rxk; have rxk := rxk_; clear rxk_
      have rxa_ := (rxa.below b16)
      clear rxa; have rxa := rxa_; clear rxa_
      have rg0_ := (rg0.below b16)
      clear rg0; have rg0 := rg0_; clear rg0_
      have rzk_ := (rzk.below b16)
      clear rzk; have rzk := rzk_; clear rzk_
      have pk_ : Box w16 (w.heap.size) #[.int .i64 kI0, (.slice kA1 kn1 kc1)] 30 := (Box.below pk b16 (by first | omega | (simp [size_drew]; done) | (simp [size_drew]; omega)))
      clear pk; have pk := pk_; clear pk_
      have pa_ : Box w16 (w.heap.size + 1) #[(.slice aA0 an0 ac0), (.slice aA1 an1 ac1)] 44 := (Box.below pa b16 (by first | omega | (simp [size_drew]; done) | (simp [size_drew]; omega)))
      clear pa; have pa := pa_; clear pa_
      have kw0_ : Box w16 (gkw0) #[(.slice w0A0 w0n0 w0c0), (.slice w0A1 w0n1 w0c1)] 38 := (Box.below kw0 b16 (by first | omega | (simp [size_drew]; done) | (simp [size_drew]; omega)))
      clear kw0; have kw0 := kw0_; clear kw0_
      have xk_ : Box w16 (w11.heap.size) #[.int .i64 kI0, (.slice xkA1 xkn1 xkc1)] 33 := (Box.below xk b16 (by first | omega | (simp [size_drew]; done) | (simp [size_drew]; omega)))
      clear xk; have xk := xk_; clear xk_
      have xa_ : Box w16 (w12.heap.size) #[(.slice xaA0 xan0 xac0), (.slice xaA1 xan1 xac1)] 38 := (Box.below xa b16 (by first | omega | (simp [size_drew]; done) | (simp [size_drew]; omega)))
      clear xa; have xa := xa_; clear xa_
      have kg0_ : Box w16 (w13.heap.size) #[(.slice g0A0 g0n0 g0c0), (.slice g0A1 g0n1 g0c1)] 38 := (Box.below kg0 b16 (by first | omega | (simp [size_drew]; done) | (simp [size_drew]; omega)))
      clear kg0; have kg0 := kg0_; clear kg0_
      refine ⟨_, rfl, ⟨pk.two.1, pk.two.2.1, xk.two.1, xk.two.2.1⟩, fun hS => ?_⟩
      (try simp only [Act.put, List.setIfInBounds_toArray, List.set_cons_zero, List.set_cons_succ])
      (refine takeH (i := 4) (by simp only [List.getElem?_toArray, List.getElem?_cons_succ, List.getElem?_cons_zero] <;> rfl) (by kernel_rfl) (by kernel_rfl) (by kernel_rfl) (by exact fun _ _ _ h => h) (by rfl) (by intro W hSw; (try dsimp only at hSw); go_simp; (first | done | with_reducible rfl)) (by assumption) ?_; (try simp only [Act.put, List.setIfInBounds_toArray, List.set_cons_zero, List.set_cons_succ]))
      clear hS
      refine wpAnyH_done (by kernel_rfl) ?_ _
      obtain ⟨cpa_0, cpa_1, fpa_0, fpa_1⟩ := pa.two
      have l_pa_0 : w.heap.size + 1 < w16.heap.size := by omega
      obtain ⟨cxa_0, cxa_1, fxa_0, fxa_1⟩ := xa.two
      have l_xa_0 : w12.heap.size < w16.heap.size := by omega
      go_wp2_with fail
      clear cpa_0 cpa_1 fpa_0 fpa_1 l_pa_0 cxa_0 cxa_1 fxa_0 fxa_1 l_xa_0
      refine wp_region_held_drew (S := fun W => W.cell? ⟨w.heap.size + 1, 0, none⟩ = some ((.slice aA0 an0 ac0)) ∧ W.cell? ⟨w.heap.size + 1, 1, none⟩ = some ((.slice aA1 an1 ac1)) ∧ W.cell? ⟨w12.heap.size, 0, none⟩ = some ((.slice xaA0 xan0 xac0)) ∧ W.cell? ⟨w12.heap.size, 1, none⟩ = some ((.slice xaA1 xan1 xac1))) (by kernel_rfl) ⟨pa.drew.two.1, pa.drew.two.2.1, xa.drew.two.1, xa.drew.two.2.1⟩ (fun hS => ?_)
      (refine takeH (i := 0) (by simp only [List.getElem?_toArray, List.getElem?_cons_succ, List.getElem?_cons_zero] <;> rfl) (by kernel_rfl) (by kernel_rfl) (by kernel_rfl) (by exact fun _ _ _ h => h) (by rfl) (by intro W hSw; (try dsimp only at hSw); go_simp; (first | done | with_reducible rfl)) (by assumption) ?_; (try simp only [Act.put, List.setIfInBounds_toArray, List.set_cons_zero, List.set_cons_succ]))
      (refine takeH (i := 1) (by simp only [List.getElem?_toArray, List.getElem?_cons_succ, List.getElem?_cons_zero] <;> rfl) (by kernel_rfl) (by kernel_rfl) (by kernel_rfl) (by exact fun _ _ _ h => h) (by rfl) (by intro W hSw; (try dsimp only at hSw); go_simp; (first | done | with_reducible rfl)) (by assumption) ?_; (try simp only [Act.put, List.setIfInBounds_toArray, List.set_cons_zero, List.set_cons_succ]))
      refine onlyH (i := 2) (by simp only [List.getElem?_toArray, List.getElem?_cons_succ, List.getElem?_cons_zero] <;> rfl) (by kernel_rfl) (by rfl) ?_
      refine callH (by go_simp; (first | done | with_reducible rfl | exact ⟨rfl, rfl⟩)) ?_
      go_at_call 42
      refine (toAuth_L (RdL.cons (d := .ints aL0) (aL0h.rd.below (by repeat (with_reducible (first | assumption | exact Below.refl _ _ | refine Below.alloc ?_ (by first | omega | (simp; done) | (simp; omega)) _ | refine Below.setCell ?_ (by first | omega | (simp; done) | (simp; omega)) _ | refine Below.drew ?_ | refine below_drewN ?_ _)))) (RdL.cons (d := .ints aL1) (aL1h.rd.below (by repeat (with_reducible (first | assumption | exact Below.refl _ _ | refine Below.alloc ?_ (by first | omega | (simp; done) | (simp; omega)) _ | refine Below.setCell ?_ (by first | omega | (simp; done) | (simp; omega)) _ | refine Below.drew ?_ | refine below_drewN ?_ _)))) RdL.nil)) aL0n aL1n).mono ?_
      rintro e w17 ⟨zaA0, zan0, zac0, zaA1, zan1, zac1, rfl, rza, b17⟩
      clear hS
      have z17 := Below.size b17
      (try simp only [World.size_alloc, World.size_setCell, size_drew] at z17)
      have B17 : Below w.heap.size w w17 := Below.trans (b := _) (by repeat (with_reducible (first | assumption | exact Below.refl _ _ | refine Below.alloc ?_ (by first | omega | (simp; done) | (simp; omega)) _ | refine Below.setCell ?_ (by first | omega | (simp; done) | (simp; omega)) _ | refine Below.drew ?_ | refine below_drewN ?_ _))) (b17.mono (by first | omega | (simp [size_drew]; done) | (simp [size_drew]; omega)))
      have rw0_ := (rw0.drew.below b17)
      clear rw0; have rw0 := rw0_; clear rw0_
      have rxk_ := (rxk.drew.below b17)
      clear rxk; have rxk := rxk_; clear rxk_
      have rxa_ := (rxa.drew.below b17)
      clear rxa; have rxa := rxa_; clear rxa_
      have rg0_ := (rg0.drew.below b17)
      clear rg0; have rg0 := rg0_; clear rg0_
      have pk_ : Box w17 (w.heap.size) #[.int .i64 kI0, (.slice kA1 kn1 kc1)] 30 := (Box.below pk.drew b17 (by first | omega | (simp [size_drew]; done) | (simp [size_drew]; omega)))
      clear pk; have pk := pk_; clear pk_
      have pa_ : Box w17 (w.heap.size + 1) #[(.slice aA0 an0 ac0), (.slice aA1 an1 ac1)] 44 := (Box.below pa.drew b17 (by first | omega | (simp [size_drew]; done) | (simp [size_drew]; omega)))
      clear pa; have pa := pa_; clear pa_
      have kw0_ : Box w17 (gkw0) #[(.slice w0A0 w0n0 w0c0), (.slice w0A1 w0n1 w0c1)] 38 := (Box.below kw0.drew b17 (by first | omega | (simp [size_drew]; done) | (simp [size_drew]; omega)))
      clear kw0; have kw0 := kw0_; clear kw0_
      have xk_ : Box w17 (w11.heap.size) #[.int .i64 kI0, (.slice xkA1 xkn1 xkc1)] 33 := (Box.below xk.drew b17 (by first | omega | (simp [size_drew]; done) | (simp [size_drew]; omega)))
      clear xk; have xk := xk_; clear xk_
      have xa_ : Box w17 (w12.heap.size) #[(.slice xaA0 xan0 xac0), (.slice xaA1 xan1 xac1)] 38 := (Box.below xa.drew b17 (by first | omega | (simp [size_drew]; done) | (simp [size_drew]; omega)))
      clear xa; have xa := xa_; clear xa_
      have kg0_ : Box w17 (w13.heap.size) #[(.slice g0A0 g0n0 g0c0), (.slice g0A1 g0n1 g0c1)] 38 := (Box.below kg0.drew b17 (by first | omega | (simp [size_drew]; done) | (simp [size_drew]; omega)))
      clear kg0; have kg0 := kg0_; clear kg0_
      (try simp only [World.size_alloc, World.size_setCell, size_drew] at rza)
      refine ⟨_, rfl, ⟨pa.two.1, pa.two.2.1, xa.two.1, xa.two.2.1⟩, fun hS => ?_⟩
      (try simp only [Act.put, List.setIfInBounds_toArray, List.set_cons_zero, List.set_cons_succ])
      refine onlyH (i := 3) (by simp only [List.getElem?_toArray, List.getElem?_cons_succ, List.getElem?_cons_zero] <;> rfl) (by kernel_rfl) (by rfl) ?_
      refine callH (by go_simp; (first | done | with_reducible rfl | exact ⟨rfl, rfl⟩)) ?_
      go_at_call 43
      refine (eqAuth_L rxa.rd rza.rd aL0n aL1n).mono ?_
      rintro e w18 ⟨rfl, b18⟩
      clear hS
      have z18 := Below.size b18
      (try simp only [World.size_alloc, World.size_setCell, size_drew] at z18)
      have B18 : Below w.heap.size w w18 := Below.trans (b := _) (by repeat (with_reducible (first | assumption | exact Below.refl _ _ | refine Below.alloc ?_ (by first | omega | (simp; done) | (simp; omega)) _ | refine Below.setCell ?_ (by first | omega | (simp; done) | (simp; omega)) _ | refine Below.drew ?_ | refine below_drewN ?_ _))) (b18.mono (by first | omega | (simp [size_drew]; done) | (simp [size_drew]; omega)))
      have rw0_ := (rw0.below b18)
      clear rw0; have rw0 := rw0_; clear rw0_
      have rxk_ := (rxk.below b18)
      clear rxk; have rxk := rxk_; clear rxk_
      have rxa_ := (rxa.below b18)
      clear rxa; have rxa := rxa_; clear rxa_
      have rg0_ := (rg0.below b18)
      clear rg0; have rg0 := rg0_; clear rg0_
      have rza_ := (rza.below b18)
      clear rza; have rza := rza_; clear rza_
      have pk_ : Box w18 (w.heap.size) #[.int .i64 kI0, (.slice kA1 kn1 kc1)] 30 := (Box.below pk b18 (by first | omega | (simp [size_drew]; done) | (simp [size_drew]; omega)))
      clear pk; have pk := pk_; clear pk_
      have pa_ : Box w18 (w.heap.size + 1) #[(.slice aA0 an0 ac0), (.slice aA1 an1 ac1)] 44 := (Box.below pa b18 (by first | omega | (simp [size_drew]; done) | (simp [size_drew]; omega)))
      clear pa; have pa := pa_; clear pa_
      have kw0_ : Box w18 (gkw0) #[(.slice w0A0 w0n0 w0c0), (.slice w0A1 w0n1 w0c1)] 38 := (Box.below kw0 b18 (by first | omega | (simp [size_drew]; done) | (simp [size_drew]; omega)))
      clear kw0; have kw0 := kw0_; clear kw0_
      have xk_ : Box w18 (w11.heap.size) #[.int .i64 kI0, (.slice xkA1 xkn1 xkc1)] 33 := (Box.below xk b18 (by first | omega | (simp [size_drew]; done) | (simp [size_drew]; omega)))
      clear xk; have xk := xk_; clear xk_
      have xa_ : Box w18 (w12.heap.size) #[(.slice xaA0 xan0 xac0), (.slice xaA1 xan1 xac1)] 38 := (Box.below xa b18 (by first | omega | (simp [size_drew]; done) | (simp [size_drew]; omega)))
      clear xa; have xa := xa_; clear xa_
      have kg0_ : Box w18 (w13.heap.size) #[(.slice g0A0 g0n0 g0c0), (.slice g0A1 g0n1 g0c1)] 38 := (Box.below kg0 b18 (by first | omega | (simp [size_drew]; done) | (simp [size_drew]; omega)))
      clear kg0; have kg0 := kg0_; clear kg0_
      refine ⟨_, rfl, ⟨pa.two.1, pa.two.2.1, xa.two.1, xa.two.2.1⟩, fun hS => ?_⟩
      (try simp only [Act.put, List.setIfInBounds_toArray, List.set_cons_zero, List.set_cons_succ])
      (refine takeH (i := 4) (by simp only [List.getElem?_toArray, List.getElem?_cons_succ, List.getElem?_cons_zero] <;> rfl) (by kernel_rfl) (by kernel_rfl) (by kernel_rfl) (by exact fun _ _ _ h => h) (by rfl) (by intro W hSw; (try dsimp only at hSw); go_simp; (first | done | with_reducible rfl)) (by assumption) ?_; (try simp only [Act.put, List.setIfInBounds_toArray, List.set_cons_zero, List.set_cons_succ]))
      clear hS
      refine wpAnyH_done (by kernel_rfl) ?_ _
      obtain ⟨cxk_0, cxk_1, fxk_0, fxk_1⟩ := xk.two
      have l_xk_0 : w11.heap.size < w18.heap.size := by omega
      go_wp2_with fail
      refine (markKeys_L kI0 (1) _ rxk (by first | omega | (simp [size_drew]; done) | (simp [size_drew]; omega)) (by omega) kL1n).mono ?_
      rintro e w19 ⟨rfl, rxk, c19⟩
      clear cxk_0 cxk_1 fxk_0 fxk_1 l_xk_0
      have z19 := c19.size
      try simp only [World.size_alloc, World.size_setCell, size_drew] at z19
      have rw0_ := rw0.away c19 (by omega)
      clear rw0; have rw0 := rw0_; clear rw0_
      have rxa_ := rxa.away c19 (by omega)
      clear rxa; have rxa := rxa_; clear rxa_
      have rg0_ := rg0.away c19 (by omega)
      clear rg0; have rg0 := rg0_; clear rg0_
      have pk_ : Box w19 (w.heap.size) #[.int .i64 kI0, (.slice kA1 kn1 kc1)] 30 := pk.chg c19 (by omega)
      clear pk; have pk := pk_; clear pk_
      have pa_ : Box w19 (w.heap.size + 1) #[(.slice aA0 an0 ac0), (.slice aA1 an1 ac1)] 44 := pa.chg c19 (by omega)
      clear pa; have pa := pa_; clear pa_
      have kw0_ : Box w19 (gkw0) #[(.slice w0A0 w0n0 w0c0), (.slice w0A1 w0n1 w0c1)] 38 := kw0.chg c19 (by omega)
      clear kw0; have kw0 := kw0_; clear kw0_
      have xk_ : Box w19 (w11.heap.size) #[.int .i64 kI0, (.slice xkA1 xkn1 xkc1)] 33 := xk.chg c19 (by omega)
      clear xk; have xk := xk_; clear xk_
      have xa_ : Box w19 (w12.heap.size) #[(.slice xaA0 xan0 xac0), (.slice xaA1 xan1 xac1)] 38 := xa.chg c19 (by omega)
      clear xa; have xa := xa_; clear xa_
      have kg0_ : Box w19 (w13.heap.size) #[(.slice g0A0 g0n0 g0c0), (.slice g0A1 g0n1 g0c1)] 38 := kg0.chg c19 (by omega)
      clear kg0; have kg0 := kg0_; clear kg0_
      have B19 : Below w.heap.size w w19 := B18.trans (c19.below (by omega) (by omega))
      obtain ⟨cxa_0, cxa_1, fxa_0, fxa_1⟩ := xa.two
      have l_xa_0 : w12.heap.size < w19.heap.size := by omega
      go_wp2_with fail
      refine (markAuth_L (1 + (kL1.length)) _ rxa (by first | omega | (simp [size_drew]; done) | (simp [size_drew]; omega)) (by omega) aL0n aL1n).mono ?_
      rintro e w20 ⟨rfl, rxa, c20⟩
      clear cxa_0 cxa_1 fxa_0 fxa_1 l_xa_0
      have z20 := c20.size
      try simp only [World.size_alloc, World.size_setCell, size_drew] at z20
      have rw0_ := rw0.away c20 (by omega)
      clear rw0; have rw0 := rw0_; clear rw0_
      have rg0_ := rg0.away c20 (by omega)
      clear rg0; have rg0 := rg0_; clear rg0_
      have rxk_ := rxk.away c20 (by omega)
      clear rxk; have rxk := rxk_; clear rxk_
      have pk_ : Box w20 (w.heap.size) #[.int .i64 kI0, (.slice kA1 kn1 kc1)] 30 := pk.chg c20 (by omega)
      clear pk; have pk := pk_; clear pk_
      have pa_ : Box w20 (w.heap.size + 1) #[(.slice aA0 an0 ac0), (.slice aA1 an1 ac1)] 44 := pa.chg c20 (by omega)
      clear pa; have pa := pa_; clear pa_
      have kw0_ : Box w20 (gkw0) #[(.slice w0A0 w0n0 w0c0), (.slice w0A1 w0n1 w0c1)] 38 := kw0.chg c20 (by omega)
      clear kw0; have kw0 := kw0_; clear kw0_
      have xk_ : Box w20 (w11.heap.size) #[.int .i64 kI0, (.slice xkA1 xkn1 xkc1)] 33 := xk.chg c20 (by omega)
      clear xk; have xk := xk_; clear xk_
      have xa_ : Box w20 (w12.heap.size) #[(.slice xaA0 xan0 xac0), (.slice xaA1 xan1 xac1)] 38 := xa.chg c20 (by omega)
      clear xa; have xa := xa_; clear xa_
      have kg0_ : Box w20 (w13.heap.size) #[(.slice g0A0 g0n0 g0c0), (.slice g0A1 g0n1 g0c1)] 38 := kg0.chg c20 (by omega)
      clear kg0; have kg0 := kg0_; clear kg0_
      have B20 : Below w.heap.size w w20 := B19.trans (c20.below (by omega) (by omega))
      obtain ⟨ckg0_0, ckg0_1, fkg0_0, fkg0_1⟩ := kg0.two
      have l_kg0_0 : w13.heap.size < w20.heap.size := by omega
      obtain ⟨ckw0_0, ckw0_1, fkw0_0, fkw0_1⟩ := kw0.two
      have l_kw0_0 : gkw0 < w20.heap.size := by omega
      go_wp2_with fail
      refine (eqAuth_L rg0.rd rw0.rd rL0_0n rL0_1n).mono ?_
      rintro e w21 ⟨rfl, b21⟩
      clear ckg0_0 ckg0_1 fkg0_0 fkg0_1 l_kg0_0 ckw0_0 ckw0_1 fkw0_0 fkw0_1 l_kw0_0
      have z21 := b21.size
      try simp only [World.size_alloc, World.size_setCell, size_drew] at z21
      have B21 : Below w.heap.size w w21 := Below.trans (b := _) (by repeat (with_reducible (first | assumption | exact Below.refl _ _ | refine Below.alloc ?_ (by first | omega | (simp; done) | (simp; omega)) _ | refine Below.setCell ?_ (by first | omega | (simp; done) | (simp; omega)) _ | refine Below.drew ?_ | refine below_drewN ?_ _))) (b21.mono (by first | omega | (simp [size_drew]; done) | (simp [size_drew]; omega)))
      have rw0_ := rw0.below b21
      clear rw0; have rw0 := rw0_; clear rw0_
      have rg0_ := rg0.below b21
      clear rg0; have rg0 := rg0_; clear rg0_
      have rxk_ := rxk.below b21
      clear rxk; have rxk := rxk_; clear rxk_
      have rxa_ := rxa.below b21
      clear rxa; have rxa := rxa_; clear rxa_
      have pk_ : Box w21 (w.heap.size) #[.int .i64 kI0, (.slice kA1 kn1 kc1)] 30 := pk.below b21 (by first | omega | (simp [size_drew]; done) | (simp [size_drew]; omega))
      clear pk; have pk := pk_; clear pk_
      have pa_ : Box w21 (w.heap.size + 1) #[(.slice aA0 an0 ac0), (.slice aA1 an1 ac1)] 44 := pa.below b21 (by first | omega | (simp [size_drew]; done) | (simp [size_drew]; omega))
      clear pa; have pa := pa_; clear pa_
      have kw0_ : Box w21 (gkw0) #[(.slice w0A0 w0n0 w0c0), (.slice w0A1 w0n1 w0c1)] 38 := kw0.below b21 (by first | omega | (simp [size_drew]; done) | (simp [size_drew]; omega))
      clear kw0; have kw0 := kw0_; clear kw0_
      have xk_ : Box w21 (w11.heap.size) #[.int .i64 kI0, (.slice xkA1 xkn1 xkc1)] 33 := xk.below b21 (by first | omega | (simp [size_drew]; done) | (simp [size_drew]; omega))
      clear xk; have xk := xk_; clear xk_
      have xa_ : Box w21 (w12.heap.size) #[(.slice xaA0 xan0 xac0), (.slice xaA1 xan1 xac1)] 38 := xa.below b21 (by first | omega | (simp [size_drew]; done) | (simp [size_drew]; omega))
      clear xa; have xa := xa_; clear xa_
      have kg0_ : Box w21 (w13.heap.size) #[(.slice g0A0 g0n0 g0c0), (.slice g0A1 g0n1 g0c1)] 38 := kg0.below b21 (by first | omega | (simp [size_drew]; done) | (simp [size_drew]; omega))
      clear kg0; have kg0 := kg0_; clear kg0_
      obtain ⟨ckg0_0, ckg0_1, fkg0_0, fkg0_1⟩ := kg0.two
      have l_kg0_0 : w13.heap.size < w21.heap.size := by omega
      go_wp2_with fail
      refine (markAuth_L (1) _ rg0 (by first | omega | (simp [size_drew]; done) | (simp [size_drew]; omega)) (by omega) rL0_0n rL0_1n).mono ?_
      rintro e w22 ⟨rfl, rg0, c22⟩
      clear ckg0_0 ckg0_1 fkg0_0 fkg0_1 l_kg0_0
      have z22 := c22.size
      try simp only [World.size_alloc, World.size_setCell, size_drew] at z22
      have rw0_ := rw0.away c22 (by omega)
      clear rw0; have rw0 := rw0_; clear rw0_
      have pk_ : Box w22 (w.heap.size) #[.int .i64 kI0, (.slice kA1 kn1 kc1)] 30 := pk.chg c22 (by omega)
      clear pk; have pk := pk_; clear pk_
      have pa_ : Box w22 (w.heap.size + 1) #[(.slice aA0 an0 ac0), (.slice aA1 an1 ac1)] 44 := pa.chg c22 (by omega)
      clear pa; have pa := pa_; clear pa_
      have kw0_ : Box w22 (gkw0) #[(.slice w0A0 w0n0 w0c0), (.slice w0A1 w0n1 w0c1)] 38 := kw0.chg c22 (by omega)
      clear kw0; have kw0 := kw0_; clear kw0_
      have kg0_ : Box w22 (w13.heap.size) #[(.slice g0A0 g0n0 g0c0), (.slice g0A1 g0n1 g0c1)] 38 := kg0.chg c22 (by omega)
      clear kg0; have kg0 := kg0_; clear kg0_
      have B22 : Below w.heap.size w w22 := B21.trans (c22.below (by omega) (by omega))
      obtain ⟨ckg0_0, ckg0_1, fkg0_0, fkg0_1⟩ := kg0.two
      have l_kg0_0 : w13.heap.size < w22.heap.size := by omega
      go_wp2_with fail
      refine (heldAuth_L (aCoS kI0 kL1 aL0 aL1 cI0).length (aCoM kI0 kL1 aL0 aL1 cI0).length (1) _ rg0.rd (by first | omega | (simp [size_drew]; done) | (simp [size_drew]; omega)) (by omega) rL0_0n rL0_1n).mono ?_
      rintro e w23 ⟨rfl, b23⟩
      clear ckg0_0 ckg0_1 fkg0_0 fkg0_1 l_kg0_0
      have z23 := b23.size
      try simp only [World.size_alloc, World.size_setCell, size_drew] at z23
      have B23 : Below w.heap.size w w23 := Below.trans (b := _) (by repeat (with_reducible (first | assumption | exact Below.refl _ _ | refine Below.alloc ?_ (by first | omega | (simp; done) | (simp; omega)) _ | refine Below.setCell ?_ (by first | omega | (simp; done) | (simp; omega)) _ | refine Below.drew ?_ | refine below_drewN ?_ _))) (b23.mono (by first | omega | (simp [size_drew]; done) | (simp [size_drew]; omega)))
      have rw0_ := rw0.below b23
      clear rw0; have rw0 := rw0_; clear rw0_
      have rg0_ := rg0.below b23
      clear rg0; have rg0 := rg0_; clear rg0_
      have pk_ : Box w23 (w.heap.size) #[.int .i64 kI0, (.slice kA1 kn1 kc1)] 30 := pk.below b23 (by first | omega | (simp [size_drew]; done) | (simp [size_drew]; omega))
      clear pk; have pk := pk_; clear pk_
      have pa_ : Box w23 (w.heap.size + 1) #[(.slice aA0 an0 ac0), (.slice aA1 an1 ac1)] 44 := pa.below b23 (by first | omega | (simp [size_drew]; done) | (simp [size_drew]; omega))
      clear pa; have pa := pa_; clear pa_
      have kw0_ : Box w23 (gkw0) #[(.slice w0A0 w0n0 w0c0), (.slice w0A1 w0n1 w0c1)] 38 := kw0.below b23 (by first | omega | (simp [size_drew]; done) | (simp [size_drew]; omega))
      clear kw0; have kw0 := kw0_; clear kw0_
      have kg0_ : Box w23 (w13.heap.size) #[(.slice g0A0 g0n0 g0c0), (.slice g0A1 g0n1 g0c1)] 38 := kg0.below b23 (by first | omega | (simp [size_drew]; done) | (simp [size_drew]; omega))
      clear kg0; have kg0 := kg0_; clear kg0_
      obtain ⟨cpk_0, cpk_1, fpk_0, fpk_1⟩ := pk.two
      have l_pk_0 : w.heap.size < w23.heap.size := by omega
      obtain ⟨cpa_0, cpa_1, fpa_0, fpa_1⟩ := pa.two
      have l_pa_0 : w.heap.size + 1 < w23.heap.size := by omega
      go_wp2_with fail
      clear cpk_0 cpk_1 fpk_0 fpk_1 l_pk_0 cpa_0 cpa_1 fpa_0 fpa_1 l_pa_0
      refine wp_region_M [7] (w23.heap.size) 8 (S := fun W => Below w.heap.size w W ∧ Below w23.heap.size w23 W ∧ W.cell? ⟨w.heap.size, 0, none⟩ = some (.int .i64 kI0) ∧ W.cell? ⟨w.heap.size, 1, none⟩ = some ((.slice kA1 kn1 kc1)) ∧ W.cell? ⟨w.heap.size + 1, 0, none⟩ = some ((.slice aA0 an0 ac0)) ∧ W.cell? ⟨w.heap.size + 1, 1, none⟩ = some ((.slice aA1 an1 ac1))) (by kernel_rfl) (by rfl) (fun W hW => ⟨Below.trans (b := _) (by repeat (with_reducible (first | assumption | exact Below.refl _ _ | refine Below.alloc ?_ (by first | omega | (simp; done) | (simp; omega)) _ | refine Below.setCell ?_ (by first | omega | (simp; done) | (simp; omega)) _ | refine Below.drew ?_ | refine below_drewN ?_ _))) (Below.mono hW (by first | omega | (simp [size_drew]; done) | (simp [size_drew]; omega))), Below.trans (b := _) (by repeat (with_reducible (first | assumption | exact Below.refl _ _ | refine Below.alloc ?_ (by first | omega | (simp; done) | (simp; omega)) _ | refine Below.setCell ?_ (by first | omega | (simp; done) | (simp; omega)) _ | refine Below.drew ?_ | refine below_drewN ?_ _))) (Below.mono hW (by first | omega | (simp [size_drew]; done) | (simp [size_drew]; omega))), (Box.below pk.drew hW (by first | omega | (simp [size_drew]; done) | (simp [size_drew]; omega))).two.1, (Box.below pk.drew hW (by first | omega | (simp [size_drew]; done) | (simp [size_drew]; omega))).two.2.1, (Box.below pa.drew hW (by first | omega | (simp [size_drew]; done) | (simp [size_drew]; omega))).two.1, (Box.below pa.drew hW (by first | omega | (simp [size_drew]; done) | (simp [size_drew]; omega))).two.2.1⟩) (by first | omega | (simp [size_drew]; done) | (simp [size_drew]; omega)) (fun hS hG => ?_)
      (try dsimp only at hS)
      refine pendM 6 15 #[.slice none 0 0, .slice none 0 0] 38 (by simp only [List.getElem?_toArray, List.getElem?_cons_succ, List.getElem?_cons_zero] <;> rfl) (by kernel_rfl) (by exact fun _ _ _ _ h => h) (by intro a W; unfold ptr; go_simp; (first | done | rfl)) hG ?_
      (refine takeM hG (i := 0) (by simp only [List.getElem?_toArray, List.getElem?_cons_succ, List.getElem?_cons_zero] <;> rfl) (by kernel_rfl) (by exact fun _ _ _ h => h) (by rfl) (by intro W hW; have hSw := hS W hW; (try dsimp only at hSw); go_simp; (first | done | with_reducible rfl | exact ⟨rfl, rfl⟩)) ?_; (try simp only [Act.put, List.setIfInBounds_toArray, List.set_cons_zero, List.set_cons_succ]))
      (refine takeM hG (i := 2) (by simp only [List.getElem?_toArray, List.getElem?_cons_succ, List.getElem?_cons_zero] <;> rfl) (by kernel_rfl) (by exact fun _ _ _ h => h) (by rfl) (by intro W hW; have hSw := hS W hW; (try dsimp only at hSw); go_simp; (first | done | with_reducible rfl | exact ⟨rfl, rfl⟩)) ?_; (try simp only [Act.put, List.setIfInBounds_toArray, List.set_cons_zero, List.set_cons_succ]))
      (refine takeM hG (i := 4) (by simp only [List.getElem?_toArray, List.getElem?_cons_succ, List.getElem?_cons_zero] <;> rfl) (by kernel_rfl) (by exact fun _ _ _ h => h) (by rfl) (by intro W hW; have hSw := hS W hW; (try dsimp only at hSw); go_simp; (first | done | with_reducible rfl | exact ⟨rfl, rfl⟩)) ?_; (try simp only [Act.put, List.setIfInBounds_toArray, List.set_cons_zero, List.set_cons_succ]))
      refine callM hG (i := 1) (by simp only [List.getElem?_toArray, List.getElem?_cons_succ, List.getElem?_cons_zero] <;> rfl) (by kernel_rfl) (by rfl) (by rfl) (by intro W hW; have hSw := hS W hW; (try dsimp only at hSw); go_simp; (first | done | with_reducible rfl | exact ⟨rfl, rfl⟩)) ?_
      intro w24 b24
      have B24 : Below w.heap.size w w24 := (hS w24 b24).1
      have z24 := Below.size b24
      (try simp only [World.size_alloc, World.size_setCell, size_drew] at z24)
      have rw0_ := (rw0.drew.below b24)
      clear rw0; have rw0 := rw0_; clear rw0_
      have rg0_ := (rg0.drew.below b24)
      clear rg0; have rg0 := rg0_; clear rg0_
      have pk_ : Box w24 (w.heap.size) #[.int .i64 kI0, (.slice kA1 kn1 kc1)] 30 := (Box.below pk.drew b24 (by first | omega | (simp [size_drew]; done) | (simp [size_drew]; omega)))
      clear pk; have pk := pk_; clear pk_
      have pa_ : Box w24 (w.heap.size + 1) #[(.slice aA0 an0 ac0), (.slice aA1 an1 ac1)] 44 := (Box.below pa.drew b24 (by first | omega | (simp [size_drew]; done) | (simp [size_drew]; omega)))
      clear pa; have pa := pa_; clear pa_
      have kw0_ : Box w24 (gkw0) #[(.slice w0A0 w0n0 w0c0), (.slice w0A1 w0n1 w0c1)] 38 := (Box.below kw0.drew b24 (by first | omega | (simp [size_drew]; done) | (simp [size_drew]; omega)))
      clear kw0; have kw0 := kw0_; clear kw0_
      have kg0_ : Box w24 (w13.heap.size) #[(.slice g0A0 g0n0 g0c0), (.slice g0A1 g0n1 g0c1)] 38 := (Box.below kg0.drew b24 (by first | omega | (simp [size_drew]; done) | (simp [size_drew]; omega)))
      clear kg0; have kg0 := kg0_; clear kg0_
      clear hS hG
      go_at_call 35
      refine (toKeys_L kI0 (RdL.cons (d := .ints kL1) (kL1h.rd.below (by repeat (with_reducible (first | assumption | exact Below.refl _ _ | refine Below.alloc ?_ (by first | omega | (simp; done) | (simp; omega)) _ | refine Below.setCell ?_ (by first | omega | (simp; done) | (simp; omega)) _ | refine Below.drew ?_ | refine below_drewN ?_ _)))) RdL.nil) kL1n).mono ?_
      rintro e w25 ⟨tkA1, tkn1, tkc1, rfl, rtk, b25⟩
      refine ⟨_, rfl, b25, fun hG => ?_⟩
      have z25 := Below.size b25
      have B25 : Below w.heap.size w w25 := Below.trans (b := _) (by repeat (with_reducible (first | assumption | exact Below.refl _ _ | refine Below.alloc ?_ (by first | omega | (simp; done) | (simp; omega)) _ | refine Below.setCell ?_ (by first | omega | (simp; done) | (simp; omega)) _ | refine Below.drew ?_ | refine below_drewN ?_ _))) (b25.mono (by first | omega | (simp [size_drew]; done) | (simp [size_drew]; omega)))
      have rw0_ := (rw0.below b25)
      clear rw0; have rw0 := rw0_; clear rw0_
      have rg0_ := (rg0.below b25)
      clear rg0; have rg0 := rg0_; clear rg0_
      have pk_ : Box w25 (w.heap.size) #[.int .i64 kI0, (.slice kA1 kn1 kc1)] 30 := (Box.below pk b25 (by first | omega | (simp [size_drew]; done) | (simp [size_drew]; omega)))
      clear pk; have pk := pk_; clear pk_
      have pa_ : Box w25 (w.heap.size + 1) #[(.slice aA0 an0 ac0), (.slice aA1 an1 ac1)] 44 := (Box.below pa b25 (by first | omega | (simp [size_drew]; done) | (simp [size_drew]; omega)))
      clear pa; have pa := pa_; clear pa_
      have kw0_ : Box w25 (gkw0) #[(.slice w0A0 w0n0 w0c0), (.slice w0A1 w0n1 w0c1)] 38 := (Box.below kw0 b25 (by first | omega | (simp [size_drew]; done) | (simp [size_drew]; omega)))
      clear kw0; have kw0 := kw0_; clear kw0_
      have kg0_ : Box w25 (w13.heap.size) #[(.slice g0A0 g0n0 g0c0), (.slice g0A1 g0n1 g0c1)] 38 := (Box.below kg0 b25 (by first | omega | (simp [size_drew]; done) | (simp [size_drew]; omega)))
      clear kg0; have kg0 := kg0_; clear kg0_
      (try simp only [Act.put, List.setIfInBounds_toArray, List.set_cons_zero, List.set_cons_succ])
      have hS : ∀ W, Later w25 W → (Below w.heap.size w W ∧ Below w25.heap.size w25 W ∧ W.cell? ⟨w.heap.size, 0, none⟩ = some (.int .i64 kI0) ∧ W.cell? ⟨w.heap.size, 1, none⟩ = some ((.slice kA1 kn1 kc1)) ∧ W.cell? ⟨w.heap.size + 1, 0, none⟩ = some ((.slice aA0 an0 ac0)) ∧ W.cell? ⟨w.heap.size + 1, 1, none⟩ = some ((.slice aA1 an1 ac1))) := fun W hW => ⟨Below.trans (b := _) (by repeat (with_reducible (first | assumption | exact Below.refl _ _ | refine Below.alloc ?_ (by first | omega | (simp; done) | (simp; omega)) _ | refine Below.setCell ?_ (by first | omega | (simp; done) | (simp; omega)) _ | refine Below.drew ?_ | refine below_drewN ?_ _))) (Below.mono hW (by first | omega | (simp [size_drew]; done) | (simp [size_drew]; omega))), Below.trans (b := _) (by repeat (with_reducible (first | assumption | exact Below.refl _ _ | refine Below.alloc ?_ (by first | omega | (simp; done) | (simp; omega)) _ | refine Below.setCell ?_ (by first | omega | (simp; done) | (simp; omega)) _ | refine Below.drew ?_ | refine below_drewN ?_ _))) (Below.mono hW (by first | omega | (simp [size_drew]; done) | (simp [size_drew]; omega))), (Box.below pk hW (by first | omega | (simp [size_drew]; done) | (simp [size_drew]; omega))).two.1, (Box.below pk hW (by first | omega | (simp [size_drew]; done) | (simp [size_drew]; omega))).two.2.1, (Box.below pa hW (by first | omega | (simp [size_drew]; done) | (simp [size_drew]; omega))).two.1, (Box.below pa hW (by first | omega | (simp [size_drew]; done) | (simp [size_drew]; omega))).two.2.1⟩
      refine callM hG (i := 3) (by simp only [List.getElem?_toArray, List.getElem?_cons_succ, List.getElem?_cons_zero] <;> rfl) (by kernel_rfl) (by rfl) (by rfl) (by intro W hW; have hSw := hS W hW; (try dsimp only at hSw); go_simp; (first | done | with_reducible rfl | exact ⟨rfl, rfl⟩)) ?_
      intro w26 b26
      have B26 : Below w.heap.size w w26 := (hS w26 b26).1
      have z26 := Below.size b26
      (try simp only [World.size_alloc, World.size_setCell, size_drew] at z26)
      have rw0_ := (rw0.below b26)
      clear rw0; have rw0 := rw0_; clear rw0_
      have rg0_ := (rg0.below b26)
      clear rg0; have rg0 := rg0_; clear rg0_
      have rtk_ := (rtk.below b26)
      clear rtk; have rtk := rtk_; clear rtk_
      have pk_ : Box w26 (w.heap.size) #[.int .i64 kI0, (.slice kA1 kn1 kc1)] 30 := (Box.below pk b26 (by first | omega | (simp [size_drew]; done) | (simp [size_drew]; omega)))
      clear pk; have pk := pk_; clear pk_
      have pa_ : Box w26 (w.heap.size + 1) #[(.slice aA0 an0 ac0), (.slice aA1 an1 ac1)] 44 := (Box.below pa b26 (by first | omega | (simp [size_drew]; done) | (simp [size_drew]; omega)))
      clear pa; have pa := pa_; clear pa_
      have kw0_ : Box w26 (gkw0) #[(.slice w0A0 w0n0 w0c0), (.slice w0A1 w0n1 w0c1)] 38 := (Box.below kw0 b26 (by first | omega | (simp [size_drew]; done) | (simp [size_drew]; omega)))
      clear kw0; have kw0 := kw0_; clear kw0_
      have kg0_ : Box w26 (w13.heap.size) #[(.slice g0A0 g0n0 g0c0), (.slice g0A1 g0n1 g0c1)] 38 := (Box.below kg0 b26 (by first | omega | (simp [size_drew]; done) | (simp [size_drew]; omega)))
      clear kg0; have kg0 := kg0_; clear kg0_
      clear hS hG
      go_at_call 42
      refine (toAuth_L (RdL.cons (d := .ints aL0) (aL0h.rd.below (by repeat (with_reducible (first | assumption | exact Below.refl _ _ | refine Below.alloc ?_ (by first | omega | (simp; done) | (simp; omega)) _ | refine Below.setCell ?_ (by first | omega | (simp; done) | (simp; omega)) _ | refine Below.drew ?_ | refine below_drewN ?_ _)))) (RdL.cons (d := .ints aL1) (aL1h.rd.below (by repeat (with_reducible (first | assumption | exact Below.refl _ _ | refine Below.alloc ?_ (by first | omega | (simp; done) | (simp; omega)) _ | refine Below.setCell ?_ (by first | omega | (simp; done) | (simp; omega)) _ | refine Below.drew ?_ | refine below_drewN ?_ _)))) RdL.nil)) aL0n aL1n).mono ?_
      rintro e w27 ⟨taA0, tan0, tac0, taA1, tan1, tac1, rfl, rta, b27⟩
      refine ⟨_, rfl, b27, fun hG => ?_⟩
      have z27 := Below.size b27
      have B27 : Below w.heap.size w w27 := Below.trans (b := _) (by repeat (with_reducible (first | assumption | exact Below.refl _ _ | refine Below.alloc ?_ (by first | omega | (simp; done) | (simp; omega)) _ | refine Below.setCell ?_ (by first | omega | (simp; done) | (simp; omega)) _ | refine Below.drew ?_ | refine below_drewN ?_ _))) (b27.mono (by first | omega | (simp [size_drew]; done) | (simp [size_drew]; omega)))
      have rw0_ := (rw0.below b27)
      clear rw0; have rw0 := rw0_; clear rw0_
      have rg0_ := (rg0.below b27)
      clear rg0; have rg0 := rg0_; clear rg0_
      have rtk_ := (rtk.below b27)
      clear rtk; have rtk := rtk_; clear rtk_
      have pk_ : Box w27 (w.heap.size) #[.int .i64 kI0, (.slice kA1 kn1 kc1)] 30 := (Box.below pk b27 (by first | omega | (simp [size_drew]; done) | (simp [size_drew]; omega)))
      clear pk; have pk := pk_; clear pk_
      have pa_ : Box w27 (w.heap.size + 1) #[(.slice aA0 an0 ac0), (.slice aA1 an1 ac1)] 44 := (Box.below pa b27 (by first | omega | (simp [size_drew]; done) | (simp [size_drew]; omega)))
      clear pa; have pa := pa_; clear pa_
      have kw0_ : Box w27 (gkw0) #[(.slice w0A0 w0n0 w0c0), (.slice w0A1 w0n1 w0c1)] 38 := (Box.below kw0 b27 (by first | omega | (simp [size_drew]; done) | (simp [size_drew]; omega)))
      clear kw0; have kw0 := kw0_; clear kw0_
      have kg0_ : Box w27 (w13.heap.size) #[(.slice g0A0 g0n0 g0c0), (.slice g0A1 g0n1 g0c1)] 38 := (Box.below kg0 b27 (by first | omega | (simp [size_drew]; done) | (simp [size_drew]; omega)))
      clear kg0; have kg0 := kg0_; clear kg0_
      (try simp only [Act.put, List.setIfInBounds_toArray, List.set_cons_zero, List.set_cons_succ])
      have hS : ∀ W, Later w27 W → (Below w.heap.size w W ∧ Below w27.heap.size w27 W ∧ W.cell? ⟨w.heap.size, 0, none⟩ = some (.int .i64 kI0) ∧ W.cell? ⟨w.heap.size, 1, none⟩ = some ((.slice kA1 kn1 kc1)) ∧ W.cell? ⟨w.heap.size + 1, 0, none⟩ = some ((.slice aA0 an0 ac0)) ∧ W.cell? ⟨w.heap.size + 1, 1, none⟩ = some ((.slice aA1 an1 ac1))) := fun W hW => ⟨Below.trans (b := _) (by repeat (with_reducible (first | assumption | exact Below.refl _ _ | refine Below.alloc ?_ (by first | omega | (simp; done) | (simp; omega)) _ | refine Below.setCell ?_ (by first | omega | (simp; done) | (simp; omega)) _ | refine Below.drew ?_ | refine below_drewN ?_ _))) (Below.mono hW (by first | omega | (simp [size_drew]; done) | (simp [size_drew]; omega))), Below.trans (b := _) (by repeat (with_reducible (first | assumption | exact Below.refl _ _ | refine Below.alloc ?_ (by first | omega | (simp; done) | (simp; omega)) _ | refine Below.setCell ?_ (by first | omega | (simp; done) | (simp; omega)) _ | refine Below.drew ?_ | refine below_drewN ?_ _))) (Below.mono hW (by first | omega | (simp [size_drew]; done) | (simp [size_drew]; omega))), (Box.below pk hW (by first | omega | (simp [size_drew]; done) | (simp [size_drew]; omega))).two.1, (Box.below pk hW (by first | omega | (simp [size_drew]; done) | (simp [size_drew]; omega))).two.2.1, (Box.below pa hW (by first | omega | (simp [size_drew]; done) | (simp [size_drew]; omega))).two.1, (Box.below pa hW (by first | omega | (simp [size_drew]; done) | (simp [size_drew]; omega))).two.2.1⟩
      refine callM hG (i := 5) (by simp only [List.getElem?_toArray, List.getElem?_cons_succ, List.getElem?_cons_zero] <;> rfl) (by kernel_rfl) (by rfl) (by rfl) (by intro W hW; have hSw := hS W hW; (try dsimp only at hSw); go_simp; (first | done | with_reducible rfl | exact ⟨rfl, rfl⟩)) ?_
      intro w28 b28
      have B28 : Below w.heap.size w w28 := (hS w28 b28).1
      have z28 := Below.size b28
      (try simp only [World.size_alloc, World.size_setCell, size_drew] at z28)
      have rw0_ := (rw0.below b28)
      clear rw0; have rw0 := rw0_; clear rw0_
      have rg0_ := (rg0.below b28)
      clear rg0; have rg0 := rg0_; clear rg0_
      have rtk_ := (rtk.below b28)
      clear rtk; have rtk := rtk_; clear rtk_
      have rta_ := (rta.below b28)
      clear rta; have rta := rta_; clear rta_
      have pk_ : Box w28 (w.heap.size) #[.int .i64 kI0, (.slice kA1 kn1 kc1)] 30 := (Box.below pk b28 (by first | omega | (simp [size_drew]; done) | (simp [size_drew]; omega)))
      clear pk; have pk := pk_; clear pk_
      have pa_ : Box w28 (w.heap.size + 1) #[(.slice aA0 an0 ac0), (.slice aA1 an1 ac1)] 44 := (Box.below pa b28 (by first | omega | (simp [size_drew]; done) | (simp [size_drew]; omega)))
      clear pa; have pa := pa_; clear pa_
      have kw0_ : Box w28 (gkw0) #[(.slice w0A0 w0n0 w0c0), (.slice w0A1 w0n1 w0c1)] 38 := (Box.below kw0 b28 (by first | omega | (simp [size_drew]; done) | (simp [size_drew]; omega)))
      clear kw0; have kw0 := kw0_; clear kw0_
      have kg0_ : Box w28 (w13.heap.size) #[(.slice g0A0 g0n0 g0c0), (.slice g0A1 g0n1 g0c1)] 38 := (Box.below kg0 b28 (by first | omega | (simp [size_drew]; done) | (simp [size_drew]; omega)))
      clear kg0; have kg0 := kg0_; clear kg0_
      clear hS hG
      go_at_call 75
      refine (iAuthConst_L kI0 rtk.rd kL1n rta.rd aL0n aL1n cI0).mono ?_
      rintro e w29 ⟨h0A0, h0n0, h0c0, h0A1, h0n1, h0c1, rfl, rh0, b29⟩
      refine ⟨_, rfl, b29, fun hG => ?_⟩
      have z29 := Below.size b29
      have B29 : Below w.heap.size w w29 := Below.trans (b := _) (by repeat (with_reducible (first | assumption | exact Below.refl _ _ | refine Below.alloc ?_ (by first | omega | (simp; done) | (simp; omega)) _ | refine Below.setCell ?_ (by first | omega | (simp; done) | (simp; omega)) _ | refine Below.drew ?_ | refine below_drewN ?_ _))) (b29.mono (by first | omega | (simp [size_drew]; done) | (simp [size_drew]; omega)))
      have rw0_ := (rw0.below b29)
      clear rw0; have rw0 := rw0_; clear rw0_
      have rg0_ := (rg0.below b29)
      clear rg0; have rg0 := rg0_; clear rg0_
      have rtk_ := (rtk.below b29)
      clear rtk; have rtk := rtk_; clear rtk_
      have rta_ := (rta.below b29)
      clear rta; have rta := rta_; clear rta_
      have pk_ : Box w29 (w.heap.size) #[.int .i64 kI0, (.slice kA1 kn1 kc1)] 30 := (Box.below pk b29 (by first | omega | (simp [size_drew]; done) | (simp [size_drew]; omega)))
      clear pk; have pk := pk_; clear pk_
      have pa_ : Box w29 (w.heap.size + 1) #[(.slice aA0 an0 ac0), (.slice aA1 an1 ac1)] 44 := (Box.below pa b29 (by first | omega | (simp [size_drew]; done) | (simp [size_drew]; omega)))
      clear pa; have pa := pa_; clear pa_
      have kw0_ : Box w29 (gkw0) #[(.slice w0A0 w0n0 w0c0), (.slice w0A1 w0n1 w0c1)] 38 := (Box.below kw0 b29 (by first | omega | (simp [size_drew]; done) | (simp [size_drew]; omega)))
      clear kw0; have kw0 := kw0_; clear kw0_
      have kg0_ : Box w29 (w13.heap.size) #[(.slice g0A0 g0n0 g0c0), (.slice g0A1 g0n1 g0c1)] 38 := (Box.below kg0 b29 (by first | omega | (simp [size_drew]; done) | (simp [size_drew]; omega)))
      clear kg0; have kg0 := kg0_; clear kg0_
      (try simp only [Act.put, List.setIfInBounds_toArray, List.set_cons_zero, List.set_cons_succ])
      have hS : ∀ W, Later w29 W → (Below w.heap.size w W ∧ Below w29.heap.size w29 W ∧ W.cell? ⟨w.heap.size, 0, none⟩ = some (.int .i64 kI0) ∧ W.cell? ⟨w.heap.size, 1, none⟩ = some ((.slice kA1 kn1 kc1)) ∧ W.cell? ⟨w.heap.size + 1, 0, none⟩ = some ((.slice aA0 an0 ac0)) ∧ W.cell? ⟨w.heap.size + 1, 1, none⟩ = some ((.slice aA1 an1 ac1))) := fun W hW => ⟨Below.trans (b := _) (by repeat (with_reducible (first | assumption | exact Below.refl _ _ | refine Below.alloc ?_ (by first | omega | (simp; done) | (simp; omega)) _ | refine Below.setCell ?_ (by first | omega | (simp; done) | (simp; omega)) _ | refine Below.drew ?_ | refine below_drewN ?_ _))) (Below.mono hW (by first | omega | (simp [size_drew]; done) | (simp [size_drew]; omega))), Below.trans (b := _) (by repeat (with_reducible (first | assumption | exact Below.refl _ _ | refine Below.alloc ?_ (by first | omega | (simp; done) | (simp; omega)) _ | refine Below.setCell ?_ (by first | omega | (simp; done) | (simp; omega)) _ | refine Below.drew ?_ | refine below_drewN ?_ _))) (Below.mono hW (by first | omega | (simp [size_drew]; done) | (simp [size_drew]; omega))), (Box.below pk hW (by first | omega | (simp [size_drew]; done) | (simp [size_drew]; omega))).two.1, (Box.below pk hW (by first | omega | (simp [size_drew]; done) | (simp [size_drew]; omega))).two.2.1, (Box.below pa hW (by first | omega | (simp [size_drew]; done) | (simp [size_drew]; omega))).two.1, (Box.below pa hW (by first | omega | (simp [size_drew]; done) | (simp [size_drew]; omega))).two.2.1⟩
      refine storeM (z := 7) (by simp only [List.getElem?_toArray, List.getElem?_cons_succ, List.getElem?_cons_zero] <;> rfl) (by kernel_rfl) (by rfl) (by rfl) ?_
      intro w30 b30
      have B30 : Below w.heap.size w w30 := (hS w30 b30).1
      have z30 := Below.size b30
      (try simp only [World.size_alloc, World.size_setCell, size_drew] at z30)
      have rw0_ := (rw0.below b30)
      clear rw0; have rw0 := rw0_; clear rw0_
      have rg0_ := (rg0.below b30)
      clear rg0; have rg0 := rg0_; clear rg0_
      have rtk_ := (rtk.below b30)
      clear rtk; have rtk := rtk_; clear rtk_
      have rta_ := (rta.below b30)
      clear rta; have rta := rta_; clear rta_
      have rh0_ := (rh0.below b30)
      clear rh0; have rh0 := rh0_; clear rh0_
      have pk_ : Box w30 (w.heap.size) #[.int .i64 kI0, (.slice kA1 kn1 kc1)] 30 := (Box.below pk b30 (by first | omega | (simp [size_drew]; done) | (simp [size_drew]; omega)))
      clear pk; have pk := pk_; clear pk_
      have pa_ : Box w30 (w.heap.size + 1) #[(.slice aA0 an0 ac0), (.slice aA1 an1 ac1)] 44 := (Box.below pa b30 (by first | omega | (simp [size_drew]; done) | (simp [size_drew]; omega)))
      clear pa; have pa := pa_; clear pa_
      have kw0_ : Box w30 (gkw0) #[(.slice w0A0 w0n0 w0c0), (.slice w0A1 w0n1 w0c1)] 38 := (Box.below kw0 b30 (by first | omega | (simp [size_drew]; done) | (simp [size_drew]; omega)))
      clear kw0; have kw0 := kw0_; clear kw0_
      have kg0_ : Box w30 (w13.heap.size) #[(.slice g0A0 g0n0 g0c0), (.slice g0A1 g0n1 g0c1)] 38 := (Box.below kg0 b30 (by first | omega | (simp [size_drew]; done) | (simp [size_drew]; omega)))
      clear kg0; have kg0 := kg0_; clear kg0_
      clear hS hG
      refine Zc.cons fun gkh0 kh0 nkh0 => ?_
      have nkh0_0 := nkh0 (w28.heap.size, w29.heap.size) (by simp)
      dsimp only at nkh0_0 kh0
      have nkh0_1 := nkh0 (w26.heap.size, w27.heap.size) (by simp)
      dsimp only at nkh0_1 kh0
      have nkh0_2 := nkh0 (w24.heap.size, w25.heap.size) (by simp)
      dsimp only at nkh0_2 kh0
      have nkh0_3 := nkh0 (0, w23.heap.size) (by simp)
      dsimp only at nkh0_3 kh0
      clear nkh0
      refine Zc.nil ?_
      (try unfold ptr)
      (try simp only [Act.put, List.setIfInBounds_toArray, List.set_cons_zero, List.set_cons_succ])
      have lkh0 := kh0.lt
      obtain ⟨ckh0_0, ckh0_1, fkh0_0, fkh0_1⟩ := kh0.two
      refine ⟨_, by go_simp; (first | done | with_reducible rfl | exact ⟨rfl, rfl⟩), ?_⟩
      (try simp only [Act.put, List.setIfInBounds_toArray, List.set_cons_zero, List.set_cons_succ])
      refine wpAny_done (by kernel_rfl) ?_ _
      clear ckh0_0 ckh0_1 fkh0_0 fkh0_1
      generalize hw31 : World.setCell _ _ _ = w31
      have z31 : w30.heap.size ≤ w31.heap.size := by rw [← hw31]; simp
      have B31 : Below w.heap.size w w31 := by rw [← hw31]; repeat (with_reducible (first | assumption | exact Below.refl _ _ | refine Below.alloc ?_ (by first | omega | (simp; done) | (simp; omega)) _ | refine Below.setCell ?_ (by first | omega | (simp; done) | (simp; omega)) _ | refine Below.drew ?_ | refine below_drewN ?_ _))
      have hK : ∀ k, k ≠ gkh0 → k < w30.heap.size → w31.heap[k]? = w30.heap[k]? := by
        intro k h0 _; rw [← hw31]
        repeat (first | rfl | refine (Below.heap_setCell _ _ _ _ (by first | exact h0)).trans ?_)
      have rw0_ := rw0.keepBlock z31 (fun k h1 h2 => hK k (by omega) (by have := rw0.2.1; omega))
      clear rw0; have rw0 := rw0_; clear rw0_
      have rg0_ := rg0.keepBlock z31 (fun k h1 h2 => hK k (by omega) (by have := rg0.2.1; omega))
      clear rg0; have rg0 := rg0_; clear rg0_
      have rtk_ := rtk.keepBlock z31 (fun k h1 h2 => hK k (by omega) (by have := rtk.2.1; omega))
      clear rtk; have rtk := rtk_; clear rtk_
      have rta_ := rta.keepBlock z31 (fun k h1 h2 => hK k (by omega) (by have := rta.2.1; omega))
      clear rta; have rta := rta_; clear rta_
      have rh0_ := rh0.keepBlock z31 (fun k h1 h2 => hK k (by omega) (by have := rh0.2.1; omega))
      clear rh0; have rh0 := rh0_; clear rh0_
      have pk_ : Box w31 (w.heap.size) #[.int .i64 kI0, (.slice kA1 kn1 kc1)] 30 := (by rw [← hw31]; exact ((pk.far (by omega)).far (by omega)))
      clear pk; have pk := pk_; clear pk_
      have pa_ : Box w31 (w.heap.size + 1) #[(.slice aA0 an0 ac0), (.slice aA1 an1 ac1)] 44 := (by rw [← hw31]; exact ((pa.far (by omega)).far (by omega)))
      clear pa; have pa := pa_; clear pa_
      have kw0_ : Box w31 (gkw0) #[(.slice w0A0 w0n0 w0c0), (.slice w0A1 w0n1 w0c1)] 38 := (by rw [← hw31]; exact ((kw0.far (by omega)).far (by omega)))
      clear kw0; have kw0 := kw0_; clear kw0_
      have kg0_ : Box w31 (w13.heap.size) #[(.slice g0A0 g0n0 g0c0), (.slice g0A1 g0n1 g0c1)] 38 := (by rw [← hw31]; exact ((kg0.far (by omega)).far (by omega)))
      clear kg0; have kg0 := kg0_; clear kg0_
      have kh0_ : Box w31 (gkh0) #[(.slice h0A0 h0n0 h0c0), (.slice h0A1 h0n1 h0c1)] 38 := (by rw [← hw31]; exact ((kh0.setAt (i := 0) (v := (.slice h0A0 h0n0 h0c0)) (ds := #[(.slice h0A0 h0n0 h0c0), .slice none 0 0]) (by simp)).setAt (i := 1) (v := (.slice h0A1 h0n1 h0c1)) (ds := #[(.slice h0A0 h0n0 h0c0), (.slice h0A1 h0n1 h0c1)]) (by simp)))
      clear kh0; have kh0 := kh0_; clear kh0_
      clear hw31 hK
      obtain ⟨ckh0_0, ckh0_1, fkh0_0, fkh0_1⟩ := kh0.two
      have l_kh0_0 : gkh0 < w31.heap.size := by omega
      obtain ⟨ckw0_0, ckw0_1, fkw0_0, fkw0_1⟩ := kw0.two
      have l_kw0_0 : gkw0 < w31.heap.size := by omega
      go_wp2_with fail
      refine (eqAuth_L rh0.rd rw0.rd rL0_0n rL0_1n).mono ?_
      rintro e w32 ⟨rfl, b32⟩
      clear ckh0_0 ckh0_1 fkh0_0 fkh0_1 l_kh0_0 ckw0_0 ckw0_1 fkw0_0 fkw0_1 l_kw0_0
      have z32 := b32.size
      try simp only [World.size_alloc, World.size_setCell, size_drew] at z32
      have B32 : Below w.heap.size w w32 := Below.trans (b := _) (by repeat (with_reducible (first | assumption | exact Below.refl _ _ | refine Below.alloc ?_ (by first | omega | (simp; done) | (simp; omega)) _ | refine Below.setCell ?_ (by first | omega | (simp; done) | (simp; omega)) _ | refine Below.drew ?_ | refine below_drewN ?_ _))) (b32.mono (by first | omega | (simp [size_drew]; done) | (simp [size_drew]; omega)))
      have rw0_ := rw0.below b32
      clear rw0; have rw0 := rw0_; clear rw0_
      have rg0_ := rg0.below b32
      clear rg0; have rg0 := rg0_; clear rg0_
      have rh0_ := rh0.below b32
      clear rh0; have rh0 := rh0_; clear rh0_
      have pk_ : Box w32 (w.heap.size) #[.int .i64 kI0, (.slice kA1 kn1 kc1)] 30 := pk.below b32 (by first | omega | (simp [size_drew]; done) | (simp [size_drew]; omega))
      clear pk; have pk := pk_; clear pk_
      have pa_ : Box w32 (w.heap.size + 1) #[(.slice aA0 an0 ac0), (.slice aA1 an1 ac1)] 44 := pa.below b32 (by first | omega | (simp [size_drew]; done) | (simp [size_drew]; omega))
      clear pa; have pa := pa_; clear pa_
      have kw0_ : Box w32 (gkw0) #[(.slice w0A0 w0n0 w0c0), (.slice w0A1 w0n1 w0c1)] 38 := kw0.below b32 (by first | omega | (simp [size_drew]; done) | (simp [size_drew]; omega))
      clear kw0; have kw0 := kw0_; clear kw0_
      have kg0_ : Box w32 (w13.heap.size) #[(.slice g0A0 g0n0 g0c0), (.slice g0A1 g0n1 g0c1)] 38 := kg0.below b32 (by first | omega | (simp [size_drew]; done) | (simp [size_drew]; omega))
      clear kg0; have kg0 := kg0_; clear kg0_
      have kh0_ : Box w32 (gkh0) #[(.slice h0A0 h0n0 h0c0), (.slice h0A1 h0n1 h0c1)] 38 := kh0.below b32 (by first | omega | (simp [size_drew]; done) | (simp [size_drew]; omega))
      clear kh0; have kh0 := kh0_; clear kh0_
      obtain ⟨ckg0_0, ckg0_1, fkg0_0, fkg0_1⟩ := kg0.two
      have l_kg0_0 : w13.heap.size < w32.heap.size := by omega
      go_wp2_with fail
      refine (heldAuth_L (aCoS kI0 kL1 aL0 aL1 cI0).length (aCoM kI0 kL1 aL0 aL1 cI0).length (1) _ rg0.rd (by first | omega | (simp [size_drew]; done) | (simp [size_drew]; omega)) (by omega) rL0_0n rL0_1n).mono ?_
      rintro e w33 ⟨rfl, b33⟩
      clear ckg0_0 ckg0_1 fkg0_0 fkg0_1 l_kg0_0
      have z33 := b33.size
      try simp only [World.size_alloc, World.size_setCell, size_drew] at z33
      have B33 : Below w.heap.size w w33 := Below.trans (b := _) (by repeat (with_reducible (first | assumption | exact Below.refl _ _ | refine Below.alloc ?_ (by first | omega | (simp; done) | (simp; omega)) _ | refine Below.setCell ?_ (by first | omega | (simp; done) | (simp; omega)) _ | refine Below.drew ?_ | refine below_drewN ?_ _))) (b33.mono (by first | omega | (simp [size_drew]; done) | (simp [size_drew]; omega)))
      have rw0_ := rw0.below b33
      clear rw0; have rw0 := rw0_; clear rw0_
      have rg0_ := rg0.below b33
      clear rg0; have rg0 := rg0_; clear rg0_
      have rh0_ := rh0.below b33
      clear rh0; have rh0 := rh0_; clear rh0_
      have pk_ : Box w33 (w.heap.size) #[.int .i64 kI0, (.slice kA1 kn1 kc1)] 30 := pk.below b33 (by first | omega | (simp [size_drew]; done) | (simp [size_drew]; omega))
      clear pk; have pk := pk_; clear pk_
      have pa_ : Box w33 (w.heap.size + 1) #[(.slice aA0 an0 ac0), (.slice aA1 an1 ac1)] 44 := pa.below b33 (by first | omega | (simp [size_drew]; done) | (simp [size_drew]; omega))
      clear pa; have pa := pa_; clear pa_
      have kw0_ : Box w33 (gkw0) #[(.slice w0A0 w0n0 w0c0), (.slice w0A1 w0n1 w0c1)] 38 := kw0.below b33 (by first | omega | (simp [size_drew]; done) | (simp [size_drew]; omega))
      clear kw0; have kw0 := kw0_; clear kw0_
      have kg0_ : Box w33 (w13.heap.size) #[(.slice g0A0 g0n0 g0c0), (.slice g0A1 g0n1 g0c1)] 38 := kg0.below b33 (by first | omega | (simp [size_drew]; done) | (simp [size_drew]; omega))
      clear kg0; have kg0 := kg0_; clear kg0_
      have kh0_ : Box w33 (gkh0) #[(.slice h0A0 h0n0 h0c0), (.slice h0A1 h0n1 h0c1)] 38 := kh0.below b33 (by first | omega | (simp [size_drew]; done) | (simp [size_drew]; omega))
      clear kh0; have kh0 := kh0_; clear kh0_
      go_wp2_with fail
      go_ret
      exact ⟨rfl, B33⟩
    · skip
      go_enter Try.func18, Try.ntmps18
      go_wp2_with fail
      refine (szKeys_yes kI0 (kL1h.below (by repeat (with_reducible (first | assumption | exact Below.refl _ _ | refine Below.alloc ?_ (by first | omega | (simp; done) | (simp; omega)) _ | refine Below.setCell ?_ (by first | omega | (simp; done) | (simp; omega)) _ | refine Below.drew ?_ | refine below_drewN ?_ _)))) (1048576) _ (by first | rfl | simp) (by omega) (by omega)).mono ?_
      rintro e w1 ⟨rfl, b1⟩
      have z1 := b1.size
      try simp only [World.size_alloc, World.size_setCell, size_drew] at z1
      have B1 : Below w.heap.size w w1 := Below.trans (b := _) (by repeat (with_reducible (first | assumption | exact Below.refl _ _ | refine Below.alloc ?_ (by first | omega | (simp; done) | (simp; omega)) _ | refine Below.setCell ?_ (by first | omega | (simp; done) | (simp; omega)) _ | refine Below.drew ?_ | refine below_drewN ?_ _))) (b1.mono (by first | omega | (simp [size_drew]; done) | (simp [size_drew]; omega)))
      have pk_ : Box w1 (w.heap.size) #[.int .i64 kI0, (.slice kA1 kn1 kc1)] 30 := ((Box.new (g := w.heap.size) _ #[.int .i64 kI0, (.slice kA1 kn1 kc1)] 30 (by simp)).alloc _).below b1 (by first | omega | (simp [size_drew]; done) | (simp [size_drew]; omega))
      have pk := pk_; clear pk_
      have pa_ : Box w1 (w.heap.size + 1) #[(.slice aA0 an0 ac0), (.slice aA1 an1 ac1)] 44 := (Box.new (g := w.heap.size + 1) _ #[(.slice aA0 an0 ac0), (.slice aA1 an1 ac1)] 44 (by simp)).below b1 (by first | omega | (simp [size_drew]; done) | (simp [size_drew]; omega))
      have pa := pa_; clear pa_
      obtain ⟨cpa_0, cpa_1, fpa_0, fpa_1⟩ := pa.two
      have l_pa_0 : w.heap.size + 1 < w1.heap.size := by omega
      go_wp2_with fail
      refine (szAuth_no (aL0h.below (by repeat (with_reducible (first | assumption | exact Below.refl _ _ | refine Below.alloc ?_ (by first | omega | (simp; done) | (simp; omega)) _ | refine Below.setCell ?_ (by first | omega | (simp; done) | (simp; omega)) _ | refine Below.drew ?_ | refine below_drewN ?_ _)))) (aL1h.below (by repeat (with_reducible (first | assumption | exact Below.refl _ _ | refine Below.alloc ?_ (by first | omega | (simp; done) | (simp; omega)) _ | refine Below.setCell ?_ (by first | omega | (simp; done) | (simp; omega)) _ | refine Below.drew ?_ | refine below_drewN ?_ _)))) (1048576 - (kL1.length)) _ (by first | rfl | simp) (by omega) (by omega)).mono ?_
      rintro e w2 ⟨rfl, b2⟩
      clear cpa_0 cpa_1 fpa_0 fpa_1 l_pa_0
      have z2 := b2.size
      try simp only [World.size_alloc, World.size_setCell, size_drew] at z2
      have B2 : Below w.heap.size w w2 := Below.trans (b := _) (by repeat (with_reducible (first | assumption | exact Below.refl _ _ | refine Below.alloc ?_ (by first | omega | (simp; done) | (simp; omega)) _ | refine Below.setCell ?_ (by first | omega | (simp; done) | (simp; omega)) _ | refine Below.drew ?_ | refine below_drewN ?_ _))) (b2.mono (by first | omega | (simp [size_drew]; done) | (simp [size_drew]; omega)))
      have pk_ : Box w2 (w.heap.size) #[.int .i64 kI0, (.slice kA1 kn1 kc1)] 30 := pk.below b2 (by first | omega | (simp [size_drew]; done) | (simp [size_drew]; omega))
      clear pk; have pk := pk_; clear pk_
      have pa_ : Box w2 (w.heap.size + 1) #[(.slice aA0 an0 ac0), (.slice aA1 an1 ac1)] 44 := pa.below b2 (by first | omega | (simp [size_drew]; done) | (simp [size_drew]; omega))
      clear pa; have pa := pa_; clear pa_
      go_wp2
      go_ret
      exact ⟨rfl, B2⟩
  · skip
    go_enter Try.func18, Try.ntmps18
    go_wp2_with fail
    refine (szKeys_no kI0 (kL1h.below (by repeat (with_reducible (first | assumption | exact Below.refl _ _ | refine Below.alloc ?_ (by first | omega | (simp; done) | (simp; omega)) _ | refine Below.setCell ?_ (by first | omega | (simp; done) | (simp; omega)) _ | refine Below.drew ?_ | refine below_drewN ?_ _)))) (1048576) _ (by first | rfl | simp) (by omega) (by omega)).mono ?_
    rintro e w1 ⟨rfl, b1⟩
    have z1 := b1.size
    try simp only [World.size_alloc, World.size_setCell, size_drew] at z1
    have B1 : Below w.heap.size w w1 := Below.trans (b := _) (by repeat (with_reducible (first | assumption | exact Below.refl _ _ | refine Below.alloc ?_ (by first | omega | (simp; done) | (simp; omega)) _ | refine Below.setCell ?_ (by first | omega | (simp; done) | (simp; omega)) _ | refine Below.drew ?_ | refine below_drewN ?_ _))) (b1.mono (by first | omega | (simp [size_drew]; done) | (simp [size_drew]; omega)))
    have pk_ : Box w1 (w.heap.size) #[.int .i64 kI0, (.slice kA1 kn1 kc1)] 30 := ((Box.new (g := w.heap.size) _ #[.int .i64 kI0, (.slice kA1 kn1 kc1)] 30 (by simp)).alloc _).below b1 (by first | omega | (simp [size_drew]; done) | (simp [size_drew]; omega))
    have pk := pk_; clear pk_
    have pa_ : Box w1 (w.heap.size + 1) #[(.slice aA0 an0 ac0), (.slice aA1 an1 ac1)] 44 := (Box.new (g := w.heap.size + 1) _ #[(.slice aA0 an0 ac0), (.slice aA1 an1 ac1)] 44 (by simp)).below b1 (by first | omega | (simp [size_drew]; done) | (simp [size_drew]; omega))
    have pa := pa_; clear pa_
    go_wp2
    go_ret
    exact ⟨rfl, B1⟩
end Go.Proofs.Ytllnnbmgdbinnaa

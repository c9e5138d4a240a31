/- The walk of the law FnExactTripleNew. Printed by laws2.py. -/
import Derived.Test.YtllnnbmgdbinnaaTriN
import Derived.Test.YtllnnbmgdbinnaaHk
import Derived.Test.YtllnnbmgdbinnaaAuto
namespace Go.Proofs.Ytllnnbmgdbinnaa
set_option linter.unusedSimpArgs false
set_option linter.unusedVariables false
open Go.RowKit
set_option maxRecDepth 100000 in
set_option maxHeartbeats 20000000 in
theorem walk_FnExactTripleNew (kI0 : Int) (kL1V : Value) (kL1 : List Int) (tI0 : Int) (tI1 : Int) (w : World) (kL1h : Rd0 w kL1V kL1) :
    Calls Try.prog 24 #[.agg #[.int .i64 kI0, kL1V], .agg #[.int .i64 tI0, .int .i64 tI1]] w fun e w' => e = .returned (.bool true) ∧ Below w.heap.size w w' := by
  obtain ⟨kA1, kn1, kc1, rfl, kL1x, kL1I⟩ := kL1h
  have kL1h : Rd0 w (.slice kA1 kn1 kc1) kL1 := ⟨_, _, _, rfl, kL1x, kL1I⟩
  by_cases sz0 : (kL1.length) ≤ 1048576
  · skip
    have kL1n : kL1.length ≤ 1048576 := by omega
    have rL0_0n : (mAS kI0 kL1 tI0 tI1).length ≤ 1048576 := Nat.le_trans (mAS_len _ _ _ _) (by omega)
    have rL0_1n : (mAM kI0 kL1 tI0 tI1).length ≤ 1048576 := Nat.le_trans (mAM_len _ _ _ _) (by omega)
    have rL0_2n : (mBS kI0 kL1 tI0 tI1).length ≤ 1048576 := Nat.le_trans (mBS_len _ _ _ _) (by omega)
    have rL0_3n : (mBM kI0 kL1 tI0 tI1).length ≤ 1048576 := Nat.le_trans (mBM_len _ _ _ _) (by omega)
    have rL0_4n : (mCS kI0 kL1 tI0 tI1).length ≤ 1048576 := Nat.le_trans (mCS_len _ _ _ _) (by omega)
    have rL0_5n : (mCM kI0 kL1 tI0 tI1).length ≤ 1048576 := Nat.le_trans (mCM_len _ _ _ _) (by omega)
    go_enter Try.func24, Try.ntmps24
    go_wp2_with fail
    refine (szKeys_yes kI0 kL1h.b (1048576) _ (by first | rfl | simp) (by omega) (by omega)).mono ?_
    rintro e w1 ⟨rfl, b1⟩
    have z1 := b1.size
    try simp only [World.size_alloc, World.size_setCell, size_drew] at z1
    have B1 : Below w.heap.size w w1 := Below.t b1
    have pk_ : Box w1 (w.heap.size) #[.int .i64 kI0, (.slice kA1 kn1 kc1)] 30 := ((Box.new (g := w.heap.size) _ #[.int .i64 kI0, (.slice kA1 kn1 kc1)] 30 (by simp)).alloc _).below b1 (by first | omega | (simp [size_drew]; done) | (simp [size_drew]; omega))
    have pk := pk_; clear pk_
    have pt_ : Box w1 (w.heap.size + 1) #[.int .i64 tI0, .int .i64 tI1] 51 := (Box.new (g := w.heap.size + 1) _ #[.int .i64 tI0, .int .i64 tI1] 51 (by simp)).below b1 (by first | omega | (simp [size_drew]; done) | (simp [size_drew]; omega))
    have pt := pt_; clear pt_
    obtain ⟨cpk_0, cpk_1, fpk_0, fpk_1⟩ := pk.two
    have l_pk_0 : w.heap.size < w1.heap.size := by omega
    obtain ⟨cpt_0, cpt_1, fpt_0, fpt_1⟩ := pt.two
    have l_pt_0 : w.heap.size + 1 < w1.heap.size := by omega
    go_wp2_with fail
    clear cpk_0 cpk_1 fpk_0 fpk_1 l_pk_0 cpt_0 cpt_1 fpt_0 fpt_1 l_pt_0
    refine wp_region_M [10, 11] (w1.heap.size) 12 (S := fun W => Below w.heap.size w W ∧ Below w1.heap.size w1 W ∧ W.cell? ⟨w.heap.size, 0, none⟩ = some (.int .i64 kI0) ∧ W.cell? ⟨w.heap.size, 1, none⟩ = some ((.slice kA1 kn1 kc1)) ∧ W.cell? ⟨w.heap.size + 1, 0, none⟩ = some (.int .i64 tI0) ∧ W.cell? ⟨w.heap.size + 1, 1, none⟩ = some (.int .i64 tI1)) (by kernel_rfl) (by rfl) (fun W hW => ⟨Below.trans (b := _) (by repeat (with_reducible (first | assumption | exact Below.refl _ _ | refine Below.alloc ?_ (by first | omega | (simp; done) | (simp; omega)) _ | refine Below.setCell ?_ (by first | omega | (simp; done) | (simp; omega)) _ | refine Below.drew ?_ | refine below_drewN ?_ _))) (Below.mono hW (by first | omega | (simp [size_drew]; done) | (simp [size_drew]; omega))), Below.trans (b := _) (by repeat (with_reducible (first | assumption | exact Below.refl _ _ | refine Below.alloc ?_ (by first | omega | (simp; done) | (simp; omega)) _ | refine Below.setCell ?_ (by first | omega | (simp; done) | (simp; omega)) _ | refine Below.drew ?_ | refine below_drewN ?_ _))) (Below.mono hW (by first | omega | (simp [size_drew]; done) | (simp [size_drew]; omega))), (Box.below pk.drew hW (by first | omega | (simp [size_drew]; done) | (simp [size_drew]; omega))).two.1, (Box.below pk.drew hW (by first | omega | (simp [size_drew]; done) | (simp [size_drew]; omega))).two.2.1, (Box.below pt.drew hW (by first | omega | (simp [size_drew]; done) | (simp [size_drew]; omega))).two.1, (Box.below pt.drew hW (by first | omega | (simp [size_drew]; done) | (simp [size_drew]; omega))).two.2.1⟩) (by first | omega | (simp [size_drew]; done) | (simp [size_drew]; omega)) (fun hS hG => ?_)
    (try dsimp only at hS)
    refine pendM 8 6 #[.slice none 0 0, .slice none 0 0, .slice none 0 0, .slice none 0 0, .slice none 0 0, .slice none 0 0] 68 (by simp only [List.getElem?_toArray, List.getElem?_cons_succ, List.getElem?_cons_zero] <;> rfl) (by kernel_rfl) (by exact fun _ _ _ _ h => h) (by intro a W; unfold ptr; go_simp; (first | done | rfl)) hG ?_
    refine pendM 9 7 #[.int .i64 0, .int .i64 0] 40 (by simp only [List.getElem?_toArray, List.getElem?_cons_succ, List.getElem?_cons_zero] <;> rfl) (by kernel_rfl) (by exact fun _ _ _ _ h => h) (by intro a W; unfold ptr; go_simp; (first | done | rfl)) hG ?_
    (refine tkM 0 hG hS ?_; (try simp only [Act.put, List.setIfInBounds_toArray, List.set_cons_zero, List.set_cons_succ]))
    (refine tkM 2 hG hS ?_; (try simp only [Act.put, List.setIfInBounds_toArray, List.set_cons_zero, List.set_cons_succ]))
    refine callM hG (i := 1) (by simp only [List.getElem?_toArray, List.getElem?_cons_succ, List.getElem?_cons_zero] <;> rfl) (by kernel_rfl) (by rfl) (by rfl) (by intro W hW; have hSw := hS W hW; (try dsimp only at hSw); go_simp; (first | done | with_reducible rfl | exact ⟨rfl, rfl⟩)) ?_
    intro w2 b2
    have B2 : Below w.heap.size w w2 := (hS w2 b2).1
    have z2 := Below.size b2
    (try simp only [World.size_alloc, World.size_setCell, size_drew] at z2)
    have pk_ : Box w2 (w.heap.size) #[.int .i64 kI0, (.slice kA1 kn1 kc1)] 30 := (Box.b pk.drew b2)
    clear pk; have pk := pk_; clear pk_
    have pt_ : Box w2 (w.heap.size + 1) #[.int .i64 tI0, .int .i64 tI1] 51 := (Box.b pt.drew b2)
    clear pt; have pt := pt_; clear pt_
    clear hS hG
    go_at_call 35
    refine (toKeys_L kI0 (RdL.cons (d := .ints kL1) kL1h.rd.b RdL.nil) kL1n).mono ?_
    rintro e w3 ⟨skA1, skn1, skc1, rfl, rsk, b3⟩
    refine ⟨_, rfl, b3, fun hG => ?_⟩
    have z3 := Below.size b3
    have B3 : Below w.heap.size w w3 := Below.t b3
    have pk_ : Box w3 (w.heap.size) #[.int .i64 kI0, (.slice kA1 kn1 kc1)] 30 := (Box.b pk b3)
    clear pk; have pk := pk_; clear pk_
    have pt_ : Box w3 (w.heap.size + 1) #[.int .i64 tI0, .int .i64 tI1] 51 := (Box.b pt b3)
    clear pt; have pt := pt_; clear pt_
    (try simp only [Act.put, List.setIfInBounds_toArray, List.set_cons_zero, List.set_cons_succ])
    have hS : ∀ W, Later w3 W → (Below w.heap.size w W ∧ Below w3.heap.size w3 W ∧ W.cell? ⟨w.heap.size, 0, none⟩ = some (.int .i64 kI0) ∧ W.cell? ⟨w.heap.size, 1, none⟩ = some ((.slice kA1 kn1 kc1)) ∧ W.cell? ⟨w.heap.size + 1, 0, none⟩ = some (.int .i64 tI0) ∧ W.cell? ⟨w.heap.size + 1, 1, none⟩ = some (.int .i64 tI1)) := fun W hW => ⟨Below.trans (b := _) (by repeat (with_reducible (first | assumption | exact Below.refl _ _ | refine Below.alloc ?_ (by first | omega | (simp; done) | (simp; omega)) _ | refine Below.setCell ?_ (by first | omega | (simp; done) | (simp; omega)) _ | refine Below.drew ?_ | refine below_drewN ?_ _))) (Below.mono hW (by first | omega | (simp [size_drew]; done) | (simp [size_drew]; omega))), Below.trans (b := _) (by repeat (with_reducible (first | assumption | exact Below.refl _ _ | refine Below.alloc ?_ (by first | omega | (simp; done) | (simp; omega)) _ | refine Below.setCell ?_ (by first | omega | (simp; done) | (simp; omega)) _ | refine Below.drew ?_ | refine below_drewN ?_ _))) (Below.mono hW (by first | omega | (simp [size_drew]; done) | (simp [size_drew]; omega))), (Box.below pk hW (by first | omega | (simp [size_drew]; done) | (simp [size_drew]; omega))).two.1, (Box.below pk hW (by first | omega | (simp [size_drew]; done) | (simp [size_drew]; omega))).two.2.1, (Box.below pt hW (by first | omega | (simp [size_drew]; done) | (simp [size_drew]; omega))).two.1, (Box.below pt hW (by first | omega | (simp [size_drew]; done) | (simp [size_drew]; omega))).two.2.1⟩
    refine callM hG (i := 3) (by simp only [List.getElem?_toArray, List.getElem?_cons_succ, List.getElem?_cons_zero] <;> rfl) (by kernel_rfl) (by rfl) (by rfl) (by intro W hW; have hSw := hS W hW; (try dsimp only at hSw); go_simp; (first | done | with_reducible rfl | exact ⟨rfl, rfl⟩)) ?_
    intro w4 b4
    have B4 : Below w.heap.size w w4 := (hS w4 b4).1
    have z4 := Below.size b4
    (try simp only [World.size_alloc, World.size_setCell, size_drew] at z4)
    have rsk_ := (rsk.below b4)
    clear rsk; have rsk := rsk_; clear rsk_
    have pk_ : Box w4 (w.heap.size) #[.int .i64 kI0, (.slice kA1 kn1 kc1)] 30 := (Box.b pk b4)
    clear pk; have pk := pk_; clear pk_
    have pt_ : Box w4 (w.heap.size + 1) #[.int .i64 tI0, .int .i64 tI1] 51 := (Box.b pt b4)
    clear pt; have pt := pt_; clear pt_
    clear hS hG
    go_at_call 47
    refine (toTape_L tI0 tI1).mono ?_
    rintro e w5 ⟨rfl, b5⟩
    refine ⟨_, rfl, b5, fun hG => ?_⟩
    have z5 := Below.size b5
    have B5 : Below w.heap.size w w5 := Below.t b5
    have rsk_ := (rsk.below b5)
    clear rsk; have rsk := rsk_; clear rsk_
    have pk_ : Box w5 (w.heap.size) #[.int .i64 kI0, (.slice kA1 kn1 kc1)] 30 := (Box.b pk b5)
    clear pk; have pk := pk_; clear pk_
    have pt_ : Box w5 (w.heap.size + 1) #[.int .i64 tI0, .int .i64 tI1] 51 := (Box.b pt b5)
    clear pt; have pt := pt_; clear pt_
    (try simp only [Act.put, List.setIfInBounds_toArray, List.set_cons_zero, List.set_cons_succ])
    have hS : ∀ W, Later w5 W → (Below w.heap.size w W ∧ Below w5.heap.size w5 W ∧ W.cell? ⟨w.heap.size, 0, none⟩ = some (.int .i64 kI0) ∧ W.cell? ⟨w.heap.size, 1, none⟩ = some ((.slice kA1 kn1 kc1)) ∧ W.cell? ⟨w.heap.size + 1, 0, none⟩ = some (.int .i64 tI0) ∧ W.cell? ⟨w.heap.size + 1, 1, none⟩ = some (.int .i64 tI1)) := fun W hW => ⟨Below.trans (b := _) (by repeat (with_reducible (first | assumption | exact Below.refl _ _ | refine Below.alloc ?_ (by first | omega | (simp; done) | (simp; omega)) _ | refine Below.setCell ?_ (by first | omega | (simp; done) | (simp; omega)) _ | refine Below.drew ?_ | refine below_drewN ?_ _))) (Below.mono hW (by first | omega | (simp [size_drew]; done) | (simp [size_drew]; omega))), Below.trans (b := _) (by repeat (with_reducible (first | assumption | exact Below.refl _ _ | refine Below.alloc ?_ (by first | omega | (simp; done) | (simp; omega)) _ | refine Below.setCell ?_ (by first | omega | (simp; done) | (simp; omega)) _ | refine Below.drew ?_ | refine below_drewN ?_ _))) (Below.mono hW (by first | omega | (simp [size_drew]; done) | (simp [size_drew]; omega))), (Box.below pk hW (by first | omega | (simp [size_drew]; done) | (simp [size_drew]; omega))).two.1, (Box.below pk hW (by first | omega | (simp [size_drew]; done) | (simp [size_drew]; omega))).two.2.1, (Box.below pt hW (by first | omega | (simp [size_drew]; done) | (simp [size_drew]; omega))).two.1, (Box.below pt hW (by first | omega | (simp [size_drew]; done) | (simp [size_drew]; omega))).two.2.1⟩
    refine callM hG (i := 4) (by simp only [List.getElem?_toArray, List.getElem?_cons_succ, List.getElem?_cons_zero] <;> rfl) (by kernel_rfl) (by rfl) (by rfl) (by intro W hW; have hSw := hS W hW; (try dsimp only at hSw); go_simp; (first | done | with_reducible rfl | exact ⟨rfl, rfl⟩)) ?_
    intro w6 b6
    have B6 : Below w.heap.size w w6 := (hS w6 b6).1
    have z6 := Below.size b6
    (try simp only [World.size_alloc, World.size_setCell, size_drew] at z6)
    have rsk_ := (rsk.below b6)
    clear rsk; have rsk := rsk_; clear rsk_
    have pk_ : Box w6 (w.heap.size) #[.int .i64 kI0, (.slice kA1 kn1 kc1)] 30 := (Box.b pk b6)
    clear pk; have pk := pk_; clear pk_
    have pt_ : Box w6 (w.heap.size + 1) #[.int .i64 tI0, .int .i64 tI1] 51 := (Box.b pt b6)
    clear pt; have pt := pt_; clear pt_
    clear hS hG
    go_at_call 72
    refine (sTripleNew_L kI0 rsk.rd kL1n tI0 tI1).mono ?_
    rintro e w7 ⟨w0A0, w0n0, w0c0, w0A1, w0n1, w0c1, w0A2, w0n2, w0c2, w0A3, w0n3, w0c3, w0A4, w0n4, w0c4, w0A5, w0n5, w0c5, rfl, rw0, b7⟩
    refine ⟨_, rfl, b7, fun hG => ?_⟩
    have z7 := Below.size b7
    have B7 : Below w.heap.size w w7 := Below.t b7
    have rsk_ := (rsk.below b7)
    clear rsk; have rsk := rsk_; clear rsk_
    have pk_ : Box w7 (w.heap.size) #[.int .i64 kI0, (.slice kA1 kn1 kc1)] 30 := (Box.b pk b7)
    clear pk; have pk := pk_; clear pk_
    have pt_ : Box w7 (w.heap.size + 1) #[.int .i64 tI0, .int .i64 tI1] 51 := (Box.b pt b7)
    clear pt; have pt := pt_; clear pt_
    (try simp only [Act.put, List.setIfInBounds_toArray, List.set_cons_zero, List.set_cons_succ])
    have hS : ∀ W, Later w7 W → (Below w.heap.size w W ∧ Below w7.heap.size w7 W ∧ W.cell? ⟨w.heap.size, 0, none⟩ = some (.int .i64 kI0) ∧ W.cell? ⟨w.heap.size, 1, none⟩ = some ((.slice kA1 kn1 kc1)) ∧ W.cell? ⟨w.heap.size + 1, 0, none⟩ = some (.int .i64 tI0) ∧ W.cell? ⟨w.heap.size + 1, 1, none⟩ = some (.int .i64 tI1)) := fun W hW => ⟨Below.trans (b := _) (by repeat (with_reducible (first | assumption | exact Below.refl _ _ | refine Below.alloc ?_ (by first | omega | (simp; done) | (simp; omega)) _ | refine Below.setCell ?_ (by first | omega | (simp; done) | (simp; omega)) _ | refine Below.drew ?_ | refine below_drewN ?_ _))) (Below.mono hW (by first | omega | (simp [size_drew]; done) | (simp [size_drew]; omega))), Below.trans (b := _) (by repeat (with_reducible (first | assumption | exact Below.refl _ _ | refine Below.alloc ?_ (by first | omega | (simp; done) | (simp; omega)) _ | refine Below.setCell ?_ (by first | omega | (simp; done) | (simp; omega)) _ | refine Below.drew ?_ | refine below_drewN ?_ _))) (Below.mono hW (by first | omega | (simp [size_drew]; done) | (simp [size_drew]; omega))), (Box.below pk hW (by first | omega | (simp [size_drew]; done) | (simp [size_drew]; omega))).two.1, (Box.below pk hW (by first | omega | (simp [size_drew]; done) | (simp [size_drew]; omega))).two.2.1, (Box.below pt hW (by first | omega | (simp [size_drew]; done) | (simp [size_drew]; omega))).two.1, (Box.below pt hW (by first | omega | (simp [size_drew]; done) | (simp [size_drew]; omega))).two.2.1⟩
    (refine tkM 5 hG hS ?_; (try simp only [Act.put, List.setIfInBounds_toArray, List.set_cons_zero, List.set_cons_succ]))
    (refine tkM 6 hG hS ?_; (try simp only [Act.put, List.setIfInBounds_toArray, List.set_cons_zero, List.set_cons_succ]))
    (refine tkY 7 hG ?_; (try simp only [Act.put, List.setIfInBounds_toArray, List.set_cons_zero, List.set_cons_succ]))
    refine storeM (z := 10) (by simp only [List.getElem?_toArray, List.getElem?_cons_succ, List.getElem?_cons_zero] <;> rfl) (by kernel_rfl) (by rfl) (by rfl) ?_
    intro w8 b8
    have B8 : Below w.heap.size w w8 := (hS w8 b8).1
    have z8 := Below.size b8
    (try simp only [World.size_alloc, World.size_setCell, size_drew] at z8)
    have rsk_ := (rsk.below b8)
    clear rsk; have rsk := rsk_; clear rsk_
    have rw0_ := (rw0.below b8)
    clear rw0; have rw0 := rw0_; clear rw0_
    have pk_ : Box w8 (w.heap.size) #[.int .i64 kI0, (.slice kA1 kn1 kc1)] 30 := (Box.b pk b8)
    clear pk; have pk := pk_; clear pk_
    have pt_ : Box w8 (w.heap.size + 1) #[.int .i64 tI0, .int .i64 tI1] 51 := (Box.b pt b8)
    clear pt; have pt := pt_; clear pt_
    clear hS hG
    refine Zc.cons fun gkw1 kw1 nkw1 => ?_
    have nkw1_0 := nkw1 (w6.heap.size, w7.heap.size) (by simp)
    dsimp only at nkw1_0 kw1
    have nkw1_1 := nkw1 (w4.heap.size, w5.heap.size) (by simp)
    dsimp only at nkw1_1 kw1
    have nkw1_2 := nkw1 (w2.heap.size, w3.heap.size) (by simp)
    dsimp only at nkw1_2 kw1
    have nkw1_3 := nkw1 (0, w1.heap.size) (by simp)
    dsimp only at nkw1_3 kw1
    clear nkw1
    refine Zc.cons fun gkw0 kw0 nkw0 => ?_
    have nkw0_0 := nkw0 (gkw1, gkw1 + 1) (by simp)
    dsimp only at nkw0_0 kw0
    have nkw0_1 := nkw0 (w6.heap.size, w7.heap.size) (by simp)
    dsimp only at nkw0_1 kw0
    have nkw0_2 := nkw0 (w4.heap.size, w5.heap.size) (by simp)
    dsimp only at nkw0_2 kw0
    have nkw0_3 := nkw0 (w2.heap.size, w3.heap.size) (by simp)
    dsimp only at nkw0_3 kw0
    have nkw0_4 := nkw0 (0, w1.heap.size) (by simp)
    dsimp only at nkw0_4 kw0
    clear nkw0
    refine Zc.nil ?_
    (try unfold ptr)
    (try simp only [Act.put, List.setIfInBounds_toArray, List.set_cons_zero, List.set_cons_succ])
    have lkw0 := kw0.lt
    have lkw1 := kw1.lt
    obtain ⟨ckw0_0, ckw0_1, ckw0_2, ckw0_3, ckw0_4, ckw0_5, fkw0_0, fkw0_1, fkw0_2, fkw0_3, fkw0_4, fkw0_5⟩ := kw0.six
    obtain ⟨ckw1_0, ckw1_1, fkw1_0, fkw1_1⟩ := kw1.two
    have ne_kw0_kw1 : gkw0 ≠ gkw1 := by omega
    have ne_kw1_kw0 : gkw1 ≠ gkw0 := by omega
    refine ⟨_, by go_simp; (first | done | with_reducible rfl | exact ⟨rfl, rfl⟩), ?_⟩
    (try simp only [Act.put, List.setIfInBounds_toArray, List.set_cons_zero, List.set_cons_succ])
    refine skipAny (i := 11) (by simp only [List.getElem?_toArray, List.getElem?_cons_succ, List.getElem?_cons_zero] <;> rfl) (by kernel_rfl) (by rfl) (by go_simp; (first | done | with_reducible rfl | exact ⟨rfl, rfl⟩)) ?_
    (try simp only [Act.put, List.setIfInBounds_toArray, List.set_cons_zero, List.set_cons_succ])
    refine wpAny_done (by kernel_rfl) ?_ _
    clear ckw0_0 ckw0_1 ckw0_2 ckw0_3 ckw0_4 ckw0_5 fkw0_0 fkw0_1 fkw0_2 fkw0_3 fkw0_4 fkw0_5 ckw1_0 ckw1_1 fkw1_0 fkw1_1 ne_kw0_kw1 ne_kw1_kw0
    generalize hw9 : World.setCell _ _ _ = w9
    have z9 : w8.heap.size ≤ w9.heap.size := by rw [← hw9]; simp
    have B9 : Below w.heap.size w w9 := by rw [← hw9]; repeat (with_reducible (first | assumption | exact Below.refl _ _ | refine Below.alloc ?_ (by first | omega | (simp; done) | (simp; omega)) _ | refine Below.setCell ?_ (by first | omega | (simp; done) | (simp; omega)) _ | refine Below.drew ?_ | refine below_drewN ?_ _))
    have hK : ∀ k, k ≠ gkw0 → k ≠ gkw1 → k < w8.heap.size → w9.heap[k]? = w8.heap[k]? := by
      intro k h0 h1 _; rw [← hw9]
      refine (Below.heap_setCell _ _ _ _ (by exact h1)).trans ?_
      refine (Below.heap_setCell _ _ _ _ (by exact h1)).trans ?_
      refine (Below.heap_setCell _ _ _ _ (by exact h0)).trans ?_
      refine (Below.heap_setCell _ _ _ _ (by exact h0)).trans ?_
      refine (Below.heap_setCell _ _ _ _ (by exact h0)).trans ?_
      refine (Below.heap_setCell _ _ _ _ (by exact h0)).trans ?_
      refine (Below.heap_setCell _ _ _ _ (by exact h0)).trans ?_
      refine (Below.heap_setCell _ _ _ _ (by exact h0)).trans ?_
      rfl
    have rsk_ := rsk.keepBlock z9 (fun k h1 h2 => hK k (by omega) (by omega) (by have := rsk.2.1; omega))
    clear rsk; have rsk := rsk_; clear rsk_
    have rw0_ := rw0.keepBlock z9 (fun k h1 h2 => hK k (by omega) (by omega) (by have := rw0.2.1; omega))
    clear rw0; have rw0 := rw0_; clear rw0_
    have pk_ : Box w9 (w.heap.size) #[.int .i64 kI0, (.slice kA1 kn1 kc1)] 30 := (by rw [← hw9]; exact ((((((((pk.far (by omega)).far (by omega)).far (by omega)).far (by omega)).far (by omega)).far (by omega)).far (by omega)).far (by omega)))
    clear pk; have pk := pk_; clear pk_
    have pt_ : Box w9 (w.heap.size + 1) #[.int .i64 tI0, .int .i64 tI1] 51 := (by rw [← hw9]; exact ((((((((pt.far (by omega)).far (by omega)).far (by omega)).far (by omega)).far (by omega)).far (by omega)).far (by omega)).far (by omega)))
    clear pt; have pt := pt_; clear pt_
    have kw1_ : Box w9 (gkw1) #[.int .i64 tI0, .int .i64 (mT kI0 kL1 tI0 tI1)] 40 := (by rw [← hw9]; exact ((((((((kw1.far (by omega)).far (by omega)).far (by omega)).far (by omega)).far (by omega)).far (by omega)).setAt (i := 0) (v := .int .i64 tI0) (ds := #[.int .i64 tI0, .int .i64 0]) (by simp)).setAt (i := 1) (v := .int .i64 (mT kI0 kL1 tI0 tI1)) (ds := #[.int .i64 tI0, .int .i64 (mT kI0 kL1 tI0 tI1)]) (by simp)))
    clear kw1; have kw1 := kw1_; clear kw1_
    have kw0_ : Box w9 (gkw0) #[(.slice w0A0 w0n0 w0c0), (.slice w0A1 w0n1 w0c1), (.slice w0A2 w0n2 w0c2), (.slice w0A3 w0n3 w0c3), (.slice w0A4 w0n4 w0c4), (.slice w0A5 w0n5 w0c5)] 68 := (by rw [← hw9]; exact ((((((((kw0.setAt (i := 0) (v := (.slice w0A0 w0n0 w0c0)) (ds := #[(.slice w0A0 w0n0 w0c0), .slice none 0 0, .slice none 0 0, .slice none 0 0, .slice none 0 0, .slice none 0 0]) (by simp)).setAt (i := 1) (v := (.slice w0A1 w0n1 w0c1)) (ds := #[(.slice w0A0 w0n0 w0c0), (.slice w0A1 w0n1 w0c1), .slice none 0 0, .slice none 0 0, .slice none 0 0, .slice none 0 0]) (by simp)).setAt (i := 2) (v := (.slice w0A2 w0n2 w0c2)) (ds := #[(.slice w0A0 w0n0 w0c0), (.slice w0A1 w0n1 w0c1), (.slice w0A2 w0n2 w0c2), .slice none 0 0, .slice none 0 0, .slice none 0 0]) (by simp)).setAt (i := 3) (v := (.slice w0A3 w0n3 w0c3)) (ds := #[(.slice w0A0 w0n0 w0c0), (.slice w0A1 w0n1 w0c1), (.slice w0A2 w0n2 w0c2), (.slice w0A3 w0n3 w0c3), .slice none 0 0, .slice none 0 0]) (by simp)).setAt (i := 4) (v := (.slice w0A4 w0n4 w0c4)) (ds := #[(.slice w0A0 w0n0 w0c0), (.slice w0A1 w0n1 w0c1), (.slice w0A2 w0n2 w0c2), (.slice w0A3 w0n3 w0c3), (.slice w0A4 w0n4 w0c4), .slice none 0 0]) (by simp)).setAt (i := 5) (v := (.slice w0A5 w0n5 w0c5)) (ds := #[(.slice w0A0 w0n0 w0c0), (.slice w0A1 w0n1 w0c1), (.slice w0A2 w0n2 w0c2), (.slice w0A3 w0n3 w0c3), (.slice w0A4 w0n4 w0c4), (.slice w0A5 w0n5 w0c5)]) (by simp)).far (by omega)).far (by omega)))
    clear kw0; have kw0 := kw0_; clear kw0_
    clear hw9 hK
    obtain ⟨cpk_0, cpk_1, fpk_0, fpk_1⟩ := pk.two
    have l_pk_0 : w.heap.size < w9.heap.size := by omega
    go_wp2_with fail
    refine (toKeys_L kI0 (RdL.cons (d := .ints kL1) kL1h.rd.b RdL.nil) kL1n).mono ?_
    rintro e w10 ⟨xkA1, xkn1, xkc1, rfl, rxk, b10⟩
    clear cpk_0 cpk_1 fpk_0 fpk_1 l_pk_0
    have z10 := b10.size
    try simp only [World.size_alloc, World.size_setCell, size_drew] at z10
    have B10 : Below w.heap.size w w10 := Below.t b10
    have rw0_ := rw0.below b10
    clear rw0; have rw0 := rw0_; clear rw0_
    have pk_ : Box w10 (w.heap.size) #[.int .i64 kI0, (.slice kA1 kn1 kc1)] 30 := pk.below b10 (by first | omega | (simp [size_drew]; done) | (simp [size_drew]; omega))
    clear pk; have pk := pk_; clear pk_
    have pt_ : Box w10 (w.heap.size + 1) #[.int .i64 tI0, .int .i64 tI1] 51 := pt.below b10 (by first | omega | (simp [size_drew]; done) | (simp [size_drew]; omega))
    clear pt; have pt := pt_; clear pt_
    have kw1_ : Box w10 (gkw1) #[.int .i64 tI0, .int .i64 (mT kI0 kL1 tI0 tI1)] 40 := kw1.below b10 (by first | omega | (simp [size_drew]; done) | (simp [size_drew]; omega))
    clear kw1; have kw1 := kw1_; clear kw1_
    have kw0_ : Box w10 (gkw0) #[(.slice w0A0 w0n0 w0c0), (.slice w0A1 w0n1 w0c1), (.slice w0A2 w0n2 w0c2), (.slice w0A3 w0n3 w0c3), (.slice w0A4 w0n4 w0c4), (.slice w0A5 w0n5 w0c5)] 68 := kw0.below b10 (by first | omega | (simp [size_drew]; done) | (simp [size_drew]; omega))
    clear kw0; have kw0 := kw0_; clear kw0_
    try simp only [World.size_alloc, World.size_setCell, size_drew] at rxk
    obtain ⟨cpt_0, cpt_1, fpt_0, fpt_1⟩ := pt.two
    have l_pt_0 : w.heap.size + 1 < w10.heap.size := by omega
    have l_pt_1 : w.heap.size + 1 < w10.heap.size + 1 := by omega
    go_wp2_with fail
    clear cpt_0 cpt_1 fpt_0 fpt_1 l_pt_0 l_pt_1
    refine wp_region_M [9, 10] (w10.heap.size + 1) 11 (S := fun W => Below w.heap.size w W ∧ Below w10.heap.size w10 W ∧ W.cell? ⟨w10.heap.size, 0, none⟩ = some (.int .i64 kI0) ∧ W.cell? ⟨w10.heap.size, 1, none⟩ = some ((.slice xkA1 xkn1 xkc1)) ∧ W.cell? ⟨w.heap.size + 1, 0, none⟩ = some (.int .i64 tI0) ∧ W.cell? ⟨w.heap.size + 1, 1, none⟩ = some (.int .i64 tI1)) (by kernel_rfl) (by rfl) (fun W hW => ⟨Below.trans (b := _) (by repeat (with_reducible (first | assumption | exact Below.refl _ _ | refine Below.alloc ?_ (by first | omega | (simp; done) | (simp; omega)) _ | refine Below.setCell ?_ (by first | omega | (simp; done) | (simp; omega)) _ | refine Below.drew ?_ | refine below_drewN ?_ _))) (Below.mono hW (by first | omega | (simp [size_drew]; done) | (simp [size_drew]; omega))), Below.trans (b := _) (by repeat (with_reducible (first | assumption | exact Below.refl _ _ | refine Below.alloc ?_ (by first | omega | (simp; done) | (simp; omega)) _ | refine Below.setCell ?_ (by first | omega | (simp; done) | (simp; omega)) _ | refine Below.drew ?_ | refine below_drewN ?_ _))) (Below.mono hW (by first | omega | (simp [size_drew]; done) | (simp [size_drew]; omega))), (Box.below (Box.new (g := w10.heap.size) _ #[.int .i64 kI0, (.slice xkA1 xkn1 xkc1)] 33 (by simp)).drew hW (by first | omega | (simp [size_drew]; done) | (simp [size_drew]; omega))).two.1, (Box.below (Box.new (g := w10.heap.size) _ #[.int .i64 kI0, (.slice xkA1 xkn1 xkc1)] 33 (by simp)).drew hW (by first | omega | (simp [size_drew]; done) | (simp [size_drew]; omega))).two.2.1, (Box.below (pt.alloc _).drew hW (by first | omega | (simp [size_drew]; done) | (simp [size_drew]; omega))).two.1, (Box.below (pt.alloc _).drew hW (by first | omega | (simp [size_drew]; done) | (simp [size_drew]; omega))).two.2.1⟩) (by first | omega | (simp [size_drew]; done) | (simp [size_drew]; omega)) (fun hS hG => ?_)
    (try dsimp only at hS)
    refine pendM 7 9 #[.slice none 0 0, .slice none 0 0, .slice none 0 0, .slice none 0 0, .slice none 0 0, .slice none 0 0] 68 (by simp only [List.getElem?_toArray, List.getElem?_cons_succ, List.getElem?_cons_zero] <;> rfl) (by kernel_rfl) (by exact fun _ _ _ _ h => h) (by intro a W; unfold ptr; go_simp; (first | done | rfl)) hG ?_
    refine pendM 8 10 #[.int .i64 0, .int .i64 0] 40 (by simp only [List.getElem?_toArray, List.getElem?_cons_succ, List.getElem?_cons_zero] <;> rfl) (by kernel_rfl) (by exact fun _ _ _ _ h => h) (by intro a W; unfold ptr; go_simp; (first | done | rfl)) hG ?_
    (refine tkM 0 hG hS ?_; (try simp only [Act.put, List.setIfInBounds_toArray, List.set_cons_zero, List.set_cons_succ]))
    (refine tkM 1 hG hS ?_; (try simp only [Act.put, List.setIfInBounds_toArray, List.set_cons_zero, List.set_cons_succ]))
    refine callM hG (i := 2) (by simp only [List.getElem?_toArray, List.getElem?_cons_succ, List.getElem?_cons_zero] <;> rfl) (by kernel_rfl) (by rfl) (by rfl) (by intro W hW; have hSw := hS W hW; (try dsimp only at hSw); go_simp; (first | done | with_reducible rfl | exact ⟨rfl, rfl⟩)) ?_
    intro w11 b11
    have B11 : Below w.heap.size w w11 := (hS w11 b11).1
    have z11 := Below.size b11
    (try simp only [World.size_alloc, World.size_setCell, size_drew] at z11)
    have rw0_ := ((rw0.alloc _).drew.below b11)
    clear rw0; have rw0 := rw0_; clear rw0_
    have rxk_ := ((rxk.alloc _).drew.below b11)
    clear rxk; have rxk := rxk_; clear rxk_
    have pk_ : Box w11 (w.heap.size) #[.int .i64 kI0, (.slice kA1 kn1 kc1)] 30 := (Box.b (pk.alloc _).drew b11)
    clear pk; have pk := pk_; clear pk_
    have pt_ : Box w11 (w.heap.size + 1) #[.int .i64 tI0, .int .i64 tI1] 51 := (Box.b (pt.alloc _).drew b11)
    clear pt; have pt := pt_; clear pt_
    have kw1_ : Box w11 (gkw1) #[.int .i64 tI0, .int .i64 (mT kI0 kL1 tI0 tI1)] 40 := (Box.b (kw1.alloc _).drew b11)
    clear kw1; have kw1 := kw1_; clear kw1_
    have kw0_ : Box w11 (gkw0) #[(.slice w0A0 w0n0 w0c0), (.slice w0A1 w0n1 w0c1), (.slice w0A2 w0n2 w0c2), (.slice w0A3 w0n3 w0c3), (.slice w0A4 w0n4 w0c4), (.slice w0A5 w0n5 w0c5)] 68 := (Box.b (kw0.alloc _).drew b11)
    clear kw0; have kw0 := kw0_; clear kw0_
    have xk_ : Box w11 (w10.heap.size) #[.int .i64 kI0, (.slice xkA1 xkn1 xkc1)] 33 := (Box.b (Box.new (g := w10.heap.size) _ #[.int .i64 kI0, (.slice xkA1 xkn1 xkc1)] 33 (by simp)).drew b11)
    have xk := xk_; clear xk_
    clear hS hG
    go_at_call 47
    refine (toTape_L tI0 tI1).mono ?_
    rintro e w12 ⟨rfl, b12⟩
    refine ⟨_, rfl, b12, fun hG => ?_⟩
    have z12 := Below.size b12
    have B12 : Below w.heap.size w w12 := Below.t b12
    have rw0_ := (rw0.below b12)
    clear rw0; have rw0 := rw0_; clear rw0_
    have rxk_ := (rxk.below b12)
    clear rxk; have rxk := rxk_; clear rxk_
    have pk_ : Box w12 (w.heap.size) #[.int .i64 kI0, (.slice kA1 kn1 kc1)] 30 := (Box.b pk b12)
    clear pk; have pk := pk_; clear pk_
    have pt_ : Box w12 (w.heap.size + 1) #[.int .i64 tI0, .int .i64 tI1] 51 := (Box.b pt b12)
    clear pt; have pt := pt_; clear pt_
    have kw1_ : Box w12 (gkw1) #[.int .i64 tI0, .int .i64 (mT kI0 kL1 tI0 tI1)] 40 := (Box.b kw1 b12)
    clear kw1; have kw1 := kw1_; clear kw1_
    have kw0_ : Box w12 (gkw0) #[(.slice w0A0 w0n0 w0c0), (.slice w0A1 w0n1 w0c1), (.slice w0A2 w0n2 w0c2), (.slice w0A3 w0n3 w0c3), (.slice w0A4 w0n4 w0c4), (.slice w0A5 w0n5 w0c5)] 68 := (Box.b kw0 b12)
    clear kw0; have kw0 := kw0_; clear kw0_
    have xk_ : Box w12 (w10.heap.size) #[.int .i64 kI0, (.slice xkA1 xkn1 xkc1)] 33 := (Box.b xk b12)
    clear xk; have xk := xk_; clear xk_
    (try simp only [Act.put, List.setIfInBounds_toArray, List.set_cons_zero, List.set_cons_succ])
    have hS : ∀ W, Later w12 W → (Below w.heap.size w W ∧ Below w12.heap.size w12 W ∧ W.cell? ⟨w10.heap.size, 0, none⟩ = some (.int .i64 kI0) ∧ W.cell? ⟨w10.heap.size, 1, none⟩ = some ((.slice xkA1 xkn1 xkc1)) ∧ W.cell? ⟨w.heap.size + 1, 0, none⟩ = some (.int .i64 tI0) ∧ W.cell? ⟨w.heap.size + 1, 1, none⟩ = some (.int .i64 tI1)) := fun W hW => ⟨Below.trans (b := _) (by repeat (with_reducible (first | assumption | exact Below.refl _ _ | refine Below.alloc ?_ (by first | omega | (simp; done) | (simp; omega)) _ | refine Below.setCell ?_ (by first | omega | (simp; done) | (simp; omega)) _ | refine Below.drew ?_ | refine below_drewN ?_ _))) (Below.mono hW (by first | omega | (simp [size_drew]; done) | (simp [size_drew]; omega))), Below.trans (b := _) (by repeat (with_reducible (first | assumption | exact Below.refl _ _ | refine Below.alloc ?_ (by first | omega | (simp; done) | (simp; omega)) _ | refine Below.setCell ?_ (by first | omega | (simp; done) | (simp; omega)) _ | refine Below.drew ?_ | refine below_drewN ?_ _))) (Below.mono hW (by first | omega | (simp [size_drew]; done) | (simp [size_drew]; omega))), (Box.below xk hW (by first | omega | (simp [size_drew]; done) | (simp [size_drew]; omega))).two.1, (Box.below xk hW (by first | omega | (simp [size_drew]; done) | (simp [size_drew]; omega))).two.2.1, (Box.below pt hW (by first | omega | (simp [size_drew]; done) | (simp [size_drew]; omega))).two.1, (Box.below pt hW (by first | omega | (simp [size_drew]; done) | (simp [size_drew]; omega))).two.2.1⟩
    refine callM hG (i := 3) (by simp only [List.getElem?_toArray, List.getElem?_cons_succ, List.getElem?_cons_zero] <;> rfl) (by kernel_rfl) (by rfl) (by rfl) (by intro W hW; have hSw := hS W hW; (try dsimp only at hSw); go_simp; (first | done | with_reducible rfl | exact ⟨rfl, rfl⟩)) ?_
    intro w13 b13
    have B13 : Below w.heap.size w w13 := (hS w13 b13).1
    have z13 := Below.size b13
    (try simp only [World.size_alloc, World.size_setCell, size_drew] at z13)
    have rw0_ := (rw0.below b13)
    clear rw0; have rw0 := rw0_; clear rw0_
    have rxk_ := (rxk.below b13)
    clear rxk; have rxk := rxk_; clear rxk_
    have pk_ : Box w13 (w.heap.size) #[.int .i64 kI0, (.slice kA1 kn1 kc1)] 30 := (Box.b pk b13)
    clear pk; have pk := pk_; clear pk_
    have pt_ : Box w13 (w.heap.size + 1) #[.int .i64 tI0, .int .i64 tI1] 51 := (Box.b pt b13)
    clear pt; have pt := pt_; clear pt_
    have kw1_ : Box w13 (gkw1) #[.int .i64 tI0, .int .i64 (mT kI0 kL1 tI0 tI1)] 40 := (Box.b kw1 b13)
    clear kw1; have kw1 := kw1_; clear kw1_
    have kw0_ : Box w13 (gkw0) #[(.slice w0A0 w0n0 w0c0), (.slice w0A1 w0n1 w0c1), (.slice w0A2 w0n2 w0c2), (.slice w0A3 w0n3 w0c3), (.slice w0A4 w0n4 w0c4), (.slice w0A5 w0n5 w0c5)] 68 := (Box.b kw0 b13)
    clear kw0; have kw0 := kw0_; clear kw0_
    have xk_ : Box w13 (w10.heap.size) #[.int .i64 kI0, (.slice xkA1 xkn1 xkc1)] 33 := (Box.b xk b13)
    clear xk; have xk := xk_; clear xk_
    clear hS hG
    go_at_call 84
    refine (iTripleNew_L kI0 rxk.rd kL1n tI0 tI1).mono ?_
    rintro e w14 ⟨g0A0, g0n0, g0c0, g0A1, g0n1, g0c1, g0A2, g0n2, g0c2, g0A3, g0n3, g0c3, g0A4, g0n4, g0c4, g0A5, g0n5, g0c5, rfl, rg0, b14⟩
    refine ⟨_, rfl, b14, fun hG => ?_⟩
    have z14 := Below.size b14
    have B14 : Below w.heap.size w w14 := Below.t b14
    have rw0_ := (rw0.below b14)
    clear rw0; have rw0 := rw0_; clear rw0_
    have rxk_ := (rxk.below b14)
    clear rxk; have rxk := rxk_; clear rxk_
    have pk_ : Box w14 (w.heap.size) #[.int .i64 kI0, (.slice kA1 kn1 kc1)] 30 := (Box.b pk b14)
    clear pk; have pk := pk_; clear pk_
    have pt_ : Box w14 (w.heap.size + 1) #[.int .i64 tI0, .int .i64 tI1] 51 := (Box.b pt b14)
    clear pt; have pt := pt_; clear pt_
    have kw1_ : Box w14 (gkw1) #[.int .i64 tI0, .int .i64 (mT kI0 kL1 tI0 tI1)] 40 := (Box.b kw1 b14)
    clear kw1; have kw1 := kw1_; clear kw1_
    have kw0_ : Box w14 (gkw0) #[(.slice w0A0 w0n0 w0c0), (.slice w0A1 w0n1 w0c1), (.slice w0A2 w0n2 w0c2), (.slice w0A3 w0n3 w0c3), (.slice w0A4 w0n4 w0c4), (.slice w0A5 w0n5 w0c5)] 68 := (Box.b kw0 b14)
    clear kw0; have kw0 := kw0_; clear kw0_
    have xk_ : Box w14 (w10.heap.size) #[.int .i64 kI0, (.slice xkA1 xkn1 xkc1)] 33 := (Box.b xk b14)
    clear xk; have xk := xk_; clear xk_
    (try simp only [Act.put, List.setIfInBounds_toArray, List.set_cons_zero, List.set_cons_succ])
    have hS : ∀ W, Later w14 W → (Below w.heap.size w W ∧ Below w14.heap.size w14 W ∧ W.cell? ⟨w10.heap.size, 0, none⟩ = some (.int .i64 kI0) ∧ W.cell? ⟨w10.heap.size, 1, none⟩ = some ((.slice xkA1 xkn1 xkc1)) ∧ W.cell? ⟨w.heap.size + 1, 0, none⟩ = some (.int .i64 tI0) ∧ W.cell? ⟨w.heap.size + 1, 1, none⟩ = some (.int .i64 tI1)) := fun W hW => ⟨Below.trans (b := _) (by repeat (with_reducible (first | assumption | exact Below.refl _ _ | refine Below.alloc ?_ (by first | omega | (simp; done) | (simp; omega)) _ | refine Below.setCell ?_ (by first | omega | (simp; done) | (simp; omega)) _ | refine Below.drew ?_ | refine below_drewN ?_ _))) (Below.mono hW (by first | omega | (simp [size_drew]; done) | (simp [size_drew]; omega))), Below.trans (b := _) (by repeat (with_reducible (first | assumption | exact Below.refl _ _ | refine Below.alloc ?_ (by first | omega | (simp; done) | (simp; omega)) _ | refine Below.setCell ?_ (by first | omega | (simp; done) | (simp; omega)) _ | refine Below.drew ?_ | refine below_drewN ?_ _))) (Below.mono hW (by first | omega | (simp [size_drew]; done) | (simp [size_drew]; omega))), (Box.below xk hW (by first | omega | (simp [size_drew]; done) | (simp [size_drew]; omega))).two.1, (Box.below xk hW (by first | omega | (simp [size_drew]; done) | (simp [size_drew]; omega))).two.2.1, (Box.below pt hW (by first | omega | (simp [size_drew]; done) | (simp [size_drew]; omega))).two.1, (Box.below pt hW (by first | omega | (simp [size_drew]; done) | (simp [size_drew]; omega))).two.2.1⟩
    (refine tkM 4 hG hS ?_; (try simp only [Act.put, List.setIfInBounds_toArray, List.set_cons_zero, List.set_cons_succ]))
    (refine tkM 5 hG hS ?_; (try simp only [Act.put, List.setIfInBounds_toArray, List.set_cons_zero, List.set_cons_succ]))
    (refine tkY 6 hG ?_; (try simp only [Act.put, List.setIfInBounds_toArray, List.set_cons_zero, List.set_cons_succ]))
    refine storeM (z := 9) (by simp only [List.getElem?_toArray, List.getElem?_cons_succ, List.getElem?_cons_zero] <;> rfl) (by kernel_rfl) (by rfl) (by rfl) ?_
    intro w15 b15
    have B15 : Below w.heap.size w w15 := (hS w15 b15).1
    have z15 := Below.size b15
    (try simp only [World.size_alloc, World.size_setCell, size_drew] at z15)
    have rw0_ := (rw0.below b15)
    clear rw0; have rw0 := rw0_; clear rw0_
    have rxk_ := (rxk.below b15)
    clear rxk; have rxk := rxk_; clear rxk_
    have rg0_ := (rg0.below b15)
    clear rg0; have rg0 := rg0_; clear rg0_
    have pk_ : Box w15 (w.heap.size) #[.int .i64 kI0, (.slice kA1 kn1 kc1)] 30 := (Box.b pk b15)
    clear pk; have pk := pk_; clear pk_
    have pt_ : Box w15 (w.heap.size + 1) #[.int .i64 tI0, .int .i64 tI1] 51 := (Box.b pt b15)
    clear pt; have pt := pt_; clear pt_
    have kw1_ : Box w15 (gkw1) #[.int .i64 tI0, .int .i64 (mT kI0 kL1 tI0 tI1)] 40 := (Box.b kw1 b15)
    clear kw1; have kw1 := kw1_; clear kw1_
    have kw0_ : Box w15 (gkw0) #[(.slice w0A0 w0n0 w0c0), (.slice w0A1 w0n1 w0c1), (.slice w0A2 w0n2 w0c2), (.slice w0A3 w0n3 w0c3), (.slice w0A4 w0n4 w0c4), (.slice w0A5 w0n5 w0c5)] 68 := (Box.b kw0 b15)
    clear kw0; have kw0 := kw0_; clear kw0_
    have xk_ : Box w15 (w10.heap.size) #[.int .i64 kI0, (.slice xkA1 xkn1 xkc1)] 33 := (Box.b xk b15)
    clear xk; have xk := xk_; clear xk_
    clear hS hG
    refine Zc.cons fun gkg1 kg1 nkg1 => ?_
    have nkg1_0 := nkg1 (w13.heap.size, w14.heap.size) (by simp)
    dsimp only at nkg1_0 kg1
    have nkg1_1 := nkg1 (w11.heap.size, w12.heap.size) (by simp)
    dsimp only at nkg1_1 kg1
    have nkg1_2 := nkg1 (0, w10.heap.size + 1) (by simp)
    dsimp only at nkg1_2 kg1
    clear nkg1
    refine Zc.cons fun gkg0 kg0 nkg0 => ?_
    have nkg0_0 := nkg0 (gkg1, gkg1 + 1) (by simp)
    dsimp only at nkg0_0 kg0
    have nkg0_1 := nkg0 (w13.heap.size, w14.heap.size) (by simp)
    dsimp only at nkg0_1 kg0
    have nkg0_2 := nkg0 (w11.heap.size, w12.heap.size) (by simp)
    dsimp only at nkg0_2 kg0
    have nkg0_3 := nkg0 (0, w10.heap.size + 1) (by simp)
    dsimp only at nkg0_3 kg0
    clear nkg0
    refine Zc.nil ?_
    (try unfold ptr)
    (try simp only [Act.put, List.setIfInBounds_toArray, List.set_cons_zero, List.set_cons_succ])
    have lkg0 := kg0.lt
    have lkg1 := kg1.lt
    obtain ⟨ckg0_0, ckg0_1, ckg0_2, ckg0_3, ckg0_4, ckg0_5, fkg0_0, fkg0_1, fkg0_2, fkg0_3, fkg0_4, fkg0_5⟩ := kg0.six
    obtain ⟨ckg1_0, ckg1_1, fkg1_0, fkg1_1⟩ := kg1.two
    have ne_kg0_kg1 : gkg0 ≠ gkg1 := by omega
    have ne_kg1_kg0 : gkg1 ≠ gkg0 := by omega
    refine ⟨_, by go_simp; (first | done | with_reducible rfl | exact ⟨rfl, rfl⟩), ?_⟩
    (try simp only [Act.put, List.setIfInBounds_toArray, List.set_cons_zero, List.set_cons_succ])
    refine skipAny (i := 10) (by simp only [List.getElem?_toArray, List.getElem?_cons_succ, List.getElem?_cons_zero] <;> rfl) (by kernel_rfl) (by rfl) (by go_simp; (first | done | with_reducible rfl | exact ⟨rfl, rfl⟩)) ?_
    (try simp only [Act.put, List.setIfInBounds_toArray, List.set_cons_zero, List.set_cons_succ])
    refine wpAny_done (by kernel_rfl) ?_ _
    clear ckg0_0 ckg0_1 ckg0_2 ckg0_3 ckg0_4 ckg0_5 fkg0_0 fkg0_1 fkg0_2 fkg0_3 fkg0_4 fkg0_5 ckg1_0 ckg1_1 fkg1_0 fkg1_1 ne_kg0_kg1 ne_kg1_kg0
    generalize hw16 : World.setCell _ _ _ = w16
    have z16 : w15.heap.size ≤ w16.heap.size := by rw [← hw16]; simp
    have B16 : Below w.heap.size w w16 := by rw [← hw16]; repeat (with_reducible (first | assumption | exact Below.refl _ _ | refine Below.alloc ?_ (by first | omega | (simp; done) | (simp; omega)) _ | refine Below.setCell ?_ (by first | omega | (simp; done) | (simp; omega)) _ | refine Below.drew ?_ | refine below_drewN ?_ _))
    have hK : ∀ k, k ≠ gkg0 → k ≠ gkg1 → k < w15.heap.size → w16.heap[k]? = w15.heap[k]? := by
      intro k h0 h1 _; rw [← hw16]
      refine (Below.heap_setCell _ _ _ _ (by exact h1)).trans ?_
      refine (Below.heap_setCell _ _ _ _ (by exact h1)).trans ?_
      refine (Below.heap_setCell _ _ _ _ (by exact h0)).trans ?_
      refine (Below.heap_setCell _ _ _ _ (by exact h0)).trans ?_
      refine (Below.heap_setCell _ _ _ _ (by exact h0)).trans ?_
      refine (Below.heap_setCell _ _ _ _ (by exact h0)).trans ?_
      refine (Below.heap_setCell _ _ _ _ (by exact h0)).trans ?_
      refine (Below.heap_setCell _ _ _ _ (by exact h0)).trans ?_
      rfl
    have rw0_ := rw0.keepBlock z16 (fun k h1 h2 => hK k (by omega) (by omega) (by have := rw0.2.1; omega))
    clear rw0; have rw0 := rw0_; clear rw0_
    have rxk_ := rxk.keepBlock z16 (fun k h1 h2 => hK k (by omega) (by omega) (by have := rxk.2.1; omega))
    clear rxk; have rxk := rxk_; clear rxk_
    have rg0_ := rg0.keepBlock z16 (fun k h1 h2 => hK k (by omega) (by omega) (by have := rg0.2.1; omega))
    clear rg0; have rg0 := rg0_; clear rg0_
    have pk_ : Box w16 (w.heap.size) #[.int .i64 kI0, (.slice kA1 kn1 kc1)] 30 := (by rw [← hw16]; exact ((((((((pk.far (by omega)).far (by omega)).far (by omega)).far (by omega)).far (by omega)).far (by omega)).far (by omega)).far (by omega)))
    clear pk; have pk := pk_; clear pk_
    have pt_ : Box w16 (w.heap.size + 1) #[.int .i64 tI0, .int .i64 tI1] 51 := (by rw [← hw16]; exact ((((((((pt.far (by omega)).far (by omega)).far (by omega)).far (by omega)).far (by omega)).far (by omega)).far (by omega)).far (by omega)))
    clear pt; have pt := pt_; clear pt_
    have kw1_ : Box w16 (gkw1) #[.int .i64 tI0, .int .i64 (mT kI0 kL1 tI0 tI1)] 40 := (by rw [← hw16]; exact ((((((((kw1.far (by omega)).far (by omega)).far (by omega)).far (by omega)).far (by omega)).far (by omega)).far (by omega)).far (by omega)))
    clear kw1; have kw1 := kw1_; clear kw1_
    have kw0_ : Box w16 (gkw0) #[(.slice w0A0 w0n0 w0c0), (.slice w0A1 w0n1 w0c1), (.slice w0A2 w0n2 w0c2), (.slice w0A3 w0n3 w0c3), (.slice w0A4 w0n4 w0c4), (.slice w0A5 w0n5 w0c5)] 68 := (by rw [← hw16]; exact ((((((((kw0.far (by omega)).far (by omega)).far (by omega)).far (by omega)).far (by omega)).far (by omega)).far (by omega)).far (by omega)))
    clear kw0; have kw0 := kw0_; clear kw0_
    have xk_ : Box w16 (w10.heap.size) #[.int .i64 kI0, (.slice xkA1 xkn1 xkc1)] 33 := (by rw [← hw16]; exact ((((((((xk.far (by omega)).far (by omega)).far (by omega)).far (by omega)).far (by omega)).far (by omega)).far (by omega)).far (by omega)))
    clear xk; have xk := xk_; clear xk_
    have kg1_ : Box w16 (gkg1) #[.int .i64 tI0, .int .i64 (mT kI0 kL1 tI0 tI1)] 40 := (by rw [← hw16]; exact ((((((((kg1.far (by omega)).far (by omega)).far (by omega)).far (by omega)).far (by omega)).far (by omega)).setAt (i := 0) (v := .int .i64 tI0) (ds := #[.int .i64 tI0, .int .i64 0]) (by simp)).setAt (i := 1) (v := .int .i64 (mT kI0 kL1 tI0 tI1)) (ds := #[.int .i64 tI0, .int .i64 (mT kI0 kL1 tI0 tI1)]) (by simp)))
    clear kg1; have kg1 := kg1_; clear kg1_
    have kg0_ : Box w16 (gkg0) #[(.slice g0A0 g0n0 g0c0), (.slice g0A1 g0n1 g0c1), (.slice g0A2 g0n2 g0c2), (.slice g0A3 g0n3 g0c3), (.slice g0A4 g0n4 g0c4), (.slice g0A5 g0n5 g0c5)] 68 := (by rw [← hw16]; exact ((((((((kg0.setAt (i := 0) (v := (.slice g0A0 g0n0 g0c0)) (ds := #[(.slice g0A0 g0n0 g0c0), .slice none 0 0, .slice none 0 0, .slice none 0 0, .slice none 0 0, .slice none 0 0]) (by simp)).setAt (i := 1) (v := (.slice g0A1 g0n1 g0c1)) (ds := #[(.slice g0A0 g0n0 g0c0), (.slice g0A1 g0n1 g0c1), .slice none 0 0, .slice none 0 0, .slice none 0 0, .slice none 0 0]) (by simp)).setAt (i := 2) (v := (.slice g0A2 g0n2 g0c2)) (ds := #[(.slice g0A0 g0n0 g0c0), (.slice g0A1 g0n1 g0c1), (.slice g0A2 g0n2 g0c2), .slice none 0 0, .slice none 0 0, .slice none 0 0]) (by simp)).setAt (i := 3) (v := (.slice g0A3 g0n3 g0c3)) (ds := #[(.slice g0A0 g0n0 g0c0), (.slice g0A1 g0n1 g0c1), (.slice g0A2 g0n2 g0c2), (.slice g0A3 g0n3 g0c3), .slice none 0 0, .slice none 0 0]) (by simp)).setAt (i := 4) (v := (.slice g0A4 g0n4 g0c4)) (ds := #[(.slice g0A0 g0n0 g0c0), (.slice g0A1 g0n1 g0c1), (.slice g0A2 g0n2 g0c2), (.slice g0A3 g0n3 g0c3), (.slice g0A4 g0n4 g0c4), .slice none 0 0]) (by simp)).setAt (i := 5) (v := (.slice g0A5 g0n5 g0c5)) (ds := #[(.slice g0A0 g0n0 g0c0), (.slice g0A1 g0n1 g0c1), (.slice g0A2 g0n2 g0c2), (.slice g0A3 g0n3 g0c3), (.slice g0A4 g0n4 g0c4), (.slice g0A5 g0n5 g0c5)]) (by simp)).far (by omega)).far (by omega)))
    clear kg0; have kg0 := kg0_; clear kg0_
    clear hw16 hK
    obtain ⟨ckg0_0, ckg0_1, ckg0_2, ckg0_3, ckg0_4, ckg0_5, fkg0_0, fkg0_1, fkg0_2, fkg0_3, fkg0_4, fkg0_5⟩ := kg0.six
    have l_kg0_0 : gkg0 < w16.heap.size := by omega
    obtain ⟨ckw0_0, ckw0_1, ckw0_2, ckw0_3, ckw0_4, ckw0_5, fkw0_0, fkw0_1, fkw0_2, fkw0_3, fkw0_4, fkw0_5⟩ := kw0.six
    have l_kw0_0 : gkw0 < w16.heap.size := by omega
    go_wp2_with fail
    refine (eqTriple_L rg0.rd rw0.rd rL0_0n rL0_1n rL0_2n rL0_3n rL0_4n rL0_5n).mono ?_
    rintro e w17 ⟨rfl, b17⟩
    clear ckg0_0 ckg0_1 ckg0_2 ckg0_3 ckg0_4 ckg0_5 fkg0_0 fkg0_1 fkg0_2 fkg0_3 fkg0_4 fkg0_5 l_kg0_0 ckw0_0 ckw0_1 ckw0_2 ckw0_3 ckw0_4 ckw0_5 fkw0_0 fkw0_1 fkw0_2 fkw0_3 fkw0_4 fkw0_5 l_kw0_0
    have z17 := b17.size
    try simp only [World.size_alloc, World.size_setCell, size_drew] at z17
    have B17 : Below w.heap.size w w17 := Below.t b17
    have rw0_ := rw0.below b17
    clear rw0; have rw0 := rw0_; clear rw0_
    have rxk_ := rxk.below b17
    clear rxk; have rxk := rxk_; clear rxk_
    have rg0_ := rg0.below b17
    clear rg0; have rg0 := rg0_; clear rg0_
    have pk_ : Box w17 (w.heap.size) #[.int .i64 kI0, (.slice kA1 kn1 kc1)] 30 := pk.below b17 (by first | omega | (simp [size_drew]; done) | (simp [size_drew]; omega))
    clear pk; have pk := pk_; clear pk_
    have pt_ : Box w17 (w.heap.size + 1) #[.int .i64 tI0, .int .i64 tI1] 51 := pt.below b17 (by first | omega | (simp [size_drew]; done) | (simp [size_drew]; omega))
    clear pt; have pt := pt_; clear pt_
    have kw1_ : Box w17 (gkw1) #[.int .i64 tI0, .int .i64 (mT kI0 kL1 tI0 tI1)] 40 := kw1.below b17 (by first | omega | (simp [size_drew]; done) | (simp [size_drew]; omega))
    clear kw1; have kw1 := kw1_; clear kw1_
    have kw0_ : Box w17 (gkw0) #[(.slice w0A0 w0n0 w0c0), (.slice w0A1 w0n1 w0c1), (.slice w0A2 w0n2 w0c2), (.slice w0A3 w0n3 w0c3), (.slice w0A4 w0n4 w0c4), (.slice w0A5 w0n5 w0c5)] 68 := kw0.below b17 (by first | omega | (simp [size_drew]; done) | (simp [size_drew]; omega))
    clear kw0; have kw0 := kw0_; clear kw0_
    have xk_ : Box w17 (w10.heap.size) #[.int .i64 kI0, (.slice xkA1 xkn1 xkc1)] 33 := xk.below b17 (by first | omega | (simp [size_drew]; done) | (simp [size_drew]; omega))
    clear xk; have xk := xk_; clear xk_
    have kg1_ : Box w17 (gkg1) #[.int .i64 tI0, .int .i64 (mT kI0 kL1 tI0 tI1)] 40 := kg1.below b17 (by first | omega | (simp [size_drew]; done) | (simp [size_drew]; omega))
    clear kg1; have kg1 := kg1_; clear kg1_
    have kg0_ : Box w17 (gkg0) #[(.slice g0A0 g0n0 g0c0), (.slice g0A1 g0n1 g0c1), (.slice g0A2 g0n2 g0c2), (.slice g0A3 g0n3 g0c3), (.slice g0A4 g0n4 g0c4), (.slice g0A5 g0n5 g0c5)] 68 := kg0.below b17 (by first | omega | (simp [size_drew]; done) | (simp [size_drew]; omega))
    clear kg0; have kg0 := kg0_; clear kg0_
    obtain ⟨ckg1_0, ckg1_1, fkg1_0, fkg1_1⟩ := kg1.two
    have l_kg1_0 : gkg1 < w17.heap.size := by omega
    obtain ⟨ckw1_0, ckw1_1, fkw1_0, fkw1_1⟩ := kw1.two
    have l_kw1_0 : gkw1 < w17.heap.size := by omega
    go_wp2_with fail
    refine (eqTape_L tI0 (mT kI0 kL1 tI0 tI1)).mono ?_
    rintro e w18 ⟨rfl, b18⟩
    clear ckg1_0 ckg1_1 fkg1_0 fkg1_1 l_kg1_0 ckw1_0 ckw1_1 fkw1_0 fkw1_1 l_kw1_0
    have z18 := b18.size
    try simp only [World.size_alloc, World.size_setCell, size_drew] at z18
    have B18 : Below w.heap.size w w18 := Below.t b18
    have rw0_ := rw0.below b18
    clear rw0; have rw0 := rw0_; clear rw0_
    have rxk_ := rxk.below b18
    clear rxk; have rxk := rxk_; clear rxk_
    have rg0_ := rg0.below b18
    clear rg0; have rg0 := rg0_; clear rg0_
    have pk_ : Box w18 (w.heap.size) #[.int .i64 kI0, (.slice kA1 kn1 kc1)] 30 := pk.below b18 (by first | omega | (simp [size_drew]; done) | (simp [size_drew]; omega))
    clear pk; have pk := pk_; clear pk_
    have pt_ : Box w18 (w.heap.size + 1) #[.int .i64 tI0, .int .i64 tI1] 51 := pt.below b18 (by first | omega | (simp [size_drew]; done) | (simp [size_drew]; omega))
    clear pt; have pt := pt_; clear pt_
    have kw1_ : Box w18 (gkw1) #[.int .i64 tI0, .int .i64 (mT kI0 kL1 tI0 tI1)] 40 := kw1.below b18 (by first | omega | (simp [size_drew]; done) | (simp [size_drew]; omega))
    clear kw1; have kw1 := kw1_; clear kw1_
    have kw0_ : Box w18 (gkw0) #[(.slice w0A0 w0n0 w0c0), (.slice w0A1 w0n1 w0c1), (.slice w0A2 w0n2 w0c2), (.slice w0A3 w0n3 w0c3), (.slice w0A4 w0n4 w0c4), (.slice w0A5 w0n5 w0c5)] 68 := kw0.below b18 (by first | omega | (simp [size_drew]; done) | (simp [size_drew]; omega))
    clear kw0; have kw0 := kw0_; clear kw0_
    have xk_ : Box w18 (w10.heap.size) #[.int .i64 kI0, (.slice xkA1 xkn1 xkc1)] 33 := xk.below b18 (by first | omega | (simp [size_drew]; done) | (simp [size_drew]; omega))
    clear xk; have xk := xk_; clear xk_
    have kg1_ : Box w18 (gkg1) #[.int .i64 tI0, .int .i64 (mT kI0 kL1 tI0 tI1)] 40 := kg1.below b18 (by first | omega | (simp [size_drew]; done) | (simp [size_drew]; omega))
    clear kg1; have kg1 := kg1_; clear kg1_
    have kg0_ : Box w18 (gkg0) #[(.slice g0A0 g0n0 g0c0), (.slice g0A1 g0n1 g0c1), (.slice g0A2 g0n2 g0c2), (.slice g0A3 g0n3 g0c3), (.slice g0A4 g0n4 g0c4), (.slice g0A5 g0n5 g0c5)] 68 := kg0.below b18 (by first | omega | (simp [size_drew]; done) | (simp [size_drew]; omega))
    clear kg0; have kg0 := kg0_; clear kg0_
    obtain ⟨cpk_0, cpk_1, fpk_0, fpk_1⟩ := pk.two
    have l_pk_0 : w.heap.size < w18.heap.size := by omega
    obtain ⟨cxk_0, cxk_1, fxk_0, fxk_1⟩ := xk.two
    have l_xk_0 : w10.heap.size < w18.heap.size := by omega
    go_wp2_with fail
    clear cpk_0 cpk_1 fpk_0 fpk_1 l_pk_0 cxk_0 cxk_1 fxk_0 fxk_1 l_xk_0
    refine wp_region_held_drew (S := fun W => W.cell? ⟨w.heap.size, 0, none⟩ = some (.int .i64 kI0) ∧ W.cell? ⟨w.heap.size, 1, none⟩ = some ((.slice kA1 kn1 kc1)) ∧ W.cell? ⟨w10.heap.size, 0, none⟩ = some (.int .i64 kI0) ∧ W.cell? ⟨w10.heap.size, 1, none⟩ = some ((.slice xkA1 xkn1 xkc1))) (by kernel_rfl) ⟨pk.drew.two.1, pk.drew.two.2.1, xk.drew.two.1, xk.drew.two.2.1⟩ (fun hS => ?_)
    (refine tk 0 hS ?_; (try simp only [Act.put, List.setIfInBounds_toArray, List.set_cons_zero, List.set_cons_succ]))
    (refine tk 1 hS ?_; (try simp only [Act.put, List.setIfInBounds_toArray, List.set_cons_zero, List.set_cons_succ]))
    refine on 2 ?_
    refine callH (by go_simp; (first | done | with_reducible rfl | exact ⟨rfl, rfl⟩)) ?_
    go_at_call 35
    refine (toKeys_L kI0 (RdL.cons (d := .ints kL1) kL1h.rd.b RdL.nil) kL1n).mono ?_
    rintro e w19 ⟨zkA1, zkn1, zkc1, rfl, rzk, b19⟩
    clear hS
    have z19 := Below.size b19
    (try simp only [World.size_alloc, World.size_setCell, size_drew] at z19)
    have B19 : Below w.heap.size w w19 := Below.t b19
    have rw0_ := (rw0.drew.below b19)
    clear rw0; have rw0 := rw0_; clear rw0_
    have rxk_ := (rxk.drew.below b19)
    clear rxk; have rxk := rxk_; clear rxk_
    have rg0_ := (rg0.drew.below b19)
    clear rg0; have rg0 := rg0_; clear rg0_
    have pk_ : Box w19 (w.heap.size) #[.int .i64 kI0, (.slice kA1 kn1 kc1)] 30 := (Box.b pk.drew b19)
    clear pk; have pk := pk_; clear pk_
    have pt_ : Box w19 (w.heap.size + 1) #[.int .i64 tI0, .int .i64 tI1] 51 := (Box.b pt.drew b19)
    clear pt; have pt := pt_; clear pt_
    have kw1_ : Box w19 (gkw1) #[.int .i64 tI0, .int .i64 (mT kI0 kL1 tI0 tI1)] 40 := (Box.b kw1.drew b19)
    clear kw1; have kw1 := kw1_; clear kw1_
    have kw0_ : Box w19 (gkw0) #[(.slice w0A0 w0n0 w0c0), (.slice w0A1 w0n1 w0c1), (.slice w0A2 w0n2 w0c2), (.slice w0A3 w0n3 w0c3), (.slice w0A4 w0n4 w0c4), (.slice w0A5 w0n5 w0c5)] 68 := (Box.b kw0.drew b19)
    clear kw0; have kw0 := kw0_; clear kw0_
    have xk_ : Box w19 (w10.heap.size) #[.int .i64 kI0, (.slice xkA1 xkn1 xkc1)] 33 := (Box.b xk.drew b19)
    clear xk; have xk := xk_; clear xk_
    have kg1_ : Box w19 (gkg1) #[.int .i64 tI0, .int .i64 (mT kI0 kL1 tI0 tI1)] 40 := (Box.b kg1.drew b19)
    clear kg1; have kg1 := kg1_; clear kg1_
    have kg0_ : Box w19 (gkg0) #[(.slice g0A0 g0n0 g0c0), (.slice g0A1 g0n1 g0c1), (.slice g0A2 g0n2 g0c2), (.slice g0A3 g0n3 g0c3), (.slice g0A4 g0n4 g0c4), (.slice g0A5 g0n5 g0c5)] 68 := (Box.b kg0.drew b19)
    clear kg0; have kg0 := kg0_; clear kg0_
    (try simp only [World.size_alloc, World.size_setCell, size_drew] at rzk)
    refine ⟨_, rfl, ⟨pk.two.1, pk.two.2.1, xk.two.1, xk.two.2.1⟩, fun hS => ?_⟩
    (try simp only [Act.put, List.setIfInBounds_toArray, List.set_cons_zero, List.set_cons_succ])
    refine on 3 ?_
    refine callH (by go_simp; (first | done | with_reducible rfl | exact ⟨rfl, rfl⟩)) ?_
    go_at_call 37
    refine (eqKeys_L kI0 rxk.rd rzk.rd kL1n).mono ?_
    rintro e w20 ⟨rfl, b20⟩
    clear hS
    have z20 := Below.size b20
    (try simp only [World.size_alloc, World.size_setCell, size_drew] at z20)
    have B20 : Below w.heap.size w w20 := Below.t b20
    have rw0_ := (rw0.below b20)
    clear rw0; have rw0 := rw0_; clear rw0_
    have rxk_ := (rxk.below b20)
    clear rxk; have rxk := rxk_; clear rxk_
    have rg0_ := (rg0.below b20)
    clear rg0; have rg0 := rg0_; clear rg0_
    have rzk_ := (rzk.below b20)
    clear rzk; have rzk := rzk_; clear rzk_
    have pk_ : Box w20 (w.heap.size) #[.int .i64 kI0, (.slice kA1 kn1 kc1)] 30 := (Box.b pk b20)
    clear pk; have pk := pk_; clear pk_
    have pt_ : Box w20 (w.heap.size + 1) #[.int .i64 tI0, .int .i64 tI1] 51 := (Box.b pt b20)
    clear pt; have pt := pt_; clear pt_
    have kw1_ : Box w20 (gkw1) #[.int .i64 tI0, .int .i64 (mT kI0 kL1 tI0 tI1)] 40 := (Box.b kw1 b20)
    clear kw1; have kw1 := kw1_; clear kw1_
    have kw0_ : Box w20 (gkw0) #[(.slice w0A0 w0n0 w0c0), (.slice w0A1 w0n1 w0c1), (.slice w0A2 w0n2 w0c2), (.slice w0A3 w0n3 w0c3), (.slice w0A4 w0n4 w0c4), (.slice w0A5 w0n5 w0c5)] 68 := (Box.b kw0 b20)
    clear kw0; have kw0 := kw0_; clear kw0_
    have xk_ : Box w20 (w10.heap.size) #[.int .i64 kI0, (.slice xkA1 xkn1 xkc1)] 33 := (Box.b xk b20)
    clear xk; have xk := xk_; clear xk_
    have kg1_ : Box w20 (gkg1) #[.int .i64 tI0, .int .i64 (mT kI0 kL1 tI0 tI1)] 40 := (Box.b kg1 b20)
    clear kg1; have kg1 := kg1_; clear kg1_
    have kg0_ : Box w20 (gkg0) #[(.slice g0A0 g0n0 g0c0), (.slice g0A1 g0n1 g0c1), (.slice g0A2 g0n2 g0c2), (.slice g0A3 g0n3 g0c3), (.slice g0A4 g0n4 g0c4), (.slice g0A5 g0n5 g0c5)] 68 := (Box.b kg0 b20)
    clear kg0; have kg0 := kg0_; clear kg0_
    refine ⟨_, rfl, ⟨pk.two.1, pk.two.2.1, xk.two.1, xk.two.2.1⟩, fun hS => ?_⟩
    (try simp only [Act.put, List.setIfInBounds_toArray, List.set_cons_zero, List.set_cons_succ])
    (refine tk 4 hS ?_; (try simp only [Act.put, List.setIfInBounds_toArray, List.set_cons_zero, List.set_cons_succ]))
    clear hS
    refine wpAnyH_done (by kernel_rfl) ?_ _
    obtain ⟨cxk_0, cxk_1, fxk_0, fxk_1⟩ := xk.two
    have l_xk_0 : w10.heap.size < w20.heap.size := by omega
    go_wp2_with fail
    refine (markKeys_L kI0 (1) _ rxk (by first | omega | (simp [size_drew]; done) | (simp [size_drew]; omega)) (by omega) kL1n).mono ?_
    rintro e w21 ⟨rfl, rxk, c21⟩
    clear cxk_0 cxk_1 fxk_0 fxk_1 l_xk_0
    have z21 := c21.size
    try simp only [World.size_alloc, World.size_setCell, size_drew] at z21
    have rw0_ := rw0.away c21 (by omega)
    clear rw0; have rw0 := rw0_; clear rw0_
    have rg0_ := rg0.away c21 (by omega)
    clear rg0; have rg0 := rg0_; clear rg0_
    have pk_ : Box w21 (w.heap.size) #[.int .i64 kI0, (.slice kA1 kn1 kc1)] 30 := pk.chg c21 (by omega)
    clear pk; have pk := pk_; clear pk_
    have pt_ : Box w21 (w.heap.size + 1) #[.int .i64 tI0, .int .i64 tI1] 51 := pt.chg c21 (by omega)
    clear pt; have pt := pt_; clear pt_
    have kw1_ : Box w21 (gkw1) #[.int .i64 tI0, .int .i64 (mT kI0 kL1 tI0 tI1)] 40 := kw1.chg c21 (by omega)
    clear kw1; have kw1 := kw1_; clear kw1_
    have kw0_ : Box w21 (gkw0) #[(.slice w0A0 w0n0 w0c0), (.slice w0A1 w0n1 w0c1), (.slice w0A2 w0n2 w0c2), (.slice w0A3 w0n3 w0c3), (.slice w0A4 w0n4 w0c4), (.slice w0A5 w0n5 w0c5)] 68 := kw0.chg c21 (by omega)
    clear kw0; have kw0 := kw0_; clear kw0_
    have xk_ : Box w21 (w10.heap.size) #[.int .i64 kI0, (.slice xkA1 xkn1 xkc1)] 33 := xk.chg c21 (by omega)
    clear xk; have xk := xk_; clear xk_
    have kg1_ : Box w21 (gkg1) #[.int .i64 tI0, .int .i64 (mT kI0 kL1 tI0 tI1)] 40 := kg1.chg c21 (by omega)
    clear kg1; have kg1 := kg1_; clear kg1_
    have kg0_ : Box w21 (gkg0) #[(.slice g0A0 g0n0 g0c0), (.slice g0A1 g0n1 g0c1), (.slice g0A2 g0n2 g0c2), (.slice g0A3 g0n3 g0c3), (.slice g0A4 g0n4 g0c4), (.slice g0A5 g0n5 g0c5)] 68 := kg0.chg c21 (by omega)
    clear kg0; have kg0 := kg0_; clear kg0_
    have B21 : Below w.heap.size w w21 := B20.trans (c21.below (by omega) (by omega))
    obtain ⟨ckg0_0, ckg0_1, ckg0_2, ckg0_3, ckg0_4, ckg0_5, fkg0_0, fkg0_1, fkg0_2, fkg0_3, fkg0_4, fkg0_5⟩ := kg0.six
    have l_kg0_0 : gkg0 < w21.heap.size := by omega
    obtain ⟨ckw0_0, ckw0_1, ckw0_2, ckw0_3, ckw0_4, ckw0_5, fkw0_0, fkw0_1, fkw0_2, fkw0_3, fkw0_4, fkw0_5⟩ := kw0.six
    have l_kw0_0 : gkw0 < w21.heap.size := by omega
    go_wp2_with fail
    refine (eqTriple_L rg0.rd rw0.rd rL0_0n rL0_1n rL0_2n rL0_3n rL0_4n rL0_5n).mono ?_
    rintro e w22 ⟨rfl, b22⟩
    clear ckg0_0 ckg0_1 ckg0_2 ckg0_3 ckg0_4 ckg0_5 fkg0_0 fkg0_1 fkg0_2 fkg0_3 fkg0_4 fkg0_5 l_kg0_0 ckw0_0 ckw0_1 ckw0_2 ckw0_3 ckw0_4 ckw0_5 fkw0_0 fkw0_1 fkw0_2 fkw0_3 fkw0_4 fkw0_5 l_kw0_0
    have z22 := b22.size
    try simp only [World.size_alloc, World.size_setCell, size_drew] at z22
    have B22 : Below w.heap.size w w22 := Below.t b22
    have rw0_ := rw0.below b22
    clear rw0; have rw0 := rw0_; clear rw0_
    have rg0_ := rg0.below b22
    clear rg0; have rg0 := rg0_; clear rg0_
    have rxk_ := rxk.below b22
    clear rxk; have rxk := rxk_; clear rxk_
    have pk_ : Box w22 (w.heap.size) #[.int .i64 kI0, (.slice kA1 kn1 kc1)] 30 := pk.below b22 (by first | omega | (simp [size_drew]; done) | (simp [size_drew]; omega))
    clear pk; have pk := pk_; clear pk_
    have pt_ : Box w22 (w.heap.size + 1) #[.int .i64 tI0, .int .i64 tI1] 51 := pt.below b22 (by first | omega | (simp [size_drew]; done) | (simp [size_drew]; omega))
    clear pt; have pt := pt_; clear pt_
    have kw1_ : Box w22 (gkw1) #[.int .i64 tI0, .int .i64 (mT kI0 kL1 tI0 tI1)] 40 := kw1.below b22 (by first | omega | (simp [size_drew]; done) | (simp [size_drew]; omega))
    clear kw1; have kw1 := kw1_; clear kw1_
    have kw0_ : Box w22 (gkw0) #[(.slice w0A0 w0n0 w0c0), (.slice w0A1 w0n1 w0c1), (.slice w0A2 w0n2 w0c2), (.slice w0A3 w0n3 w0c3), (.slice w0A4 w0n4 w0c4), (.slice w0A5 w0n5 w0c5)] 68 := kw0.below b22 (by first | omega | (simp [size_drew]; done) | (simp [size_drew]; omega))
    clear kw0; have kw0 := kw0_; clear kw0_
    have xk_ : Box w22 (w10.heap.size) #[.int .i64 kI0, (.slice xkA1 xkn1 xkc1)] 33 := xk.below b22 (by first | omega | (simp [size_drew]; done) | (simp [size_drew]; omega))
    clear xk; have xk := xk_; clear xk_
    have kg1_ : Box w22 (gkg1) #[.int .i64 tI0, .int .i64 (mT kI0 kL1 tI0 tI1)] 40 := kg1.below b22 (by first | omega | (simp [size_drew]; done) | (simp [size_drew]; omega))
    clear kg1; have kg1 := kg1_; clear kg1_
    have kg0_ : Box w22 (gkg0) #[(.slice g0A0 g0n0 g0c0), (.slice g0A1 g0n1 g0c1), (.slice g0A2 g0n2 g0c2), (.slice g0A3 g0n3 g0c3), (.slice g0A4 g0n4 g0c4), (.slice g0A5 g0n5 g0c5)] 68 := kg0.below b22 (by first | omega | (simp [size_drew]; done) | (simp [size_drew]; omega))
    clear kg0; have kg0 := kg0_; clear kg0_
    obtain ⟨ckg1_0, ckg1_1, fkg1_0, fkg1_1⟩ := kg1.two
    have l_kg1_0 : gkg1 < w22.heap.size := by omega
    obtain ⟨ckw1_0, ckw1_1, fkw1_0, fkw1_1⟩ := kw1.two
    have l_kw1_0 : gkw1 < w22.heap.size := by omega
    go_wp2_with fail
    refine (eqTape_L tI0 (mT kI0 kL1 tI0 tI1)).mono ?_
    rintro e w23 ⟨rfl, b23⟩
    clear ckg1_0 ckg1_1 fkg1_0 fkg1_1 l_kg1_0 ckw1_0 ckw1_1 fkw1_0 fkw1_1 l_kw1_0
    have z23 := b23.size
    try simp only [World.size_alloc, World.size_setCell, size_drew] at z23
    have B23 : Below w.heap.size w w23 := Below.t b23
    have rw0_ := rw0.below b23
    clear rw0; have rw0 := rw0_; clear rw0_
    have rg0_ := rg0.below b23
    clear rg0; have rg0 := rg0_; clear rg0_
    have rxk_ := rxk.below b23
    clear rxk; have rxk := rxk_; clear rxk_
    have pk_ : Box w23 (w.heap.size) #[.int .i64 kI0, (.slice kA1 kn1 kc1)] 30 := pk.below b23 (by first | omega | (simp [size_drew]; done) | (simp [size_drew]; omega))
    clear pk; have pk := pk_; clear pk_
    have pt_ : Box w23 (w.heap.size + 1) #[.int .i64 tI0, .int .i64 tI1] 51 := pt.below b23 (by first | omega | (simp [size_drew]; done) | (simp [size_drew]; omega))
    clear pt; have pt := pt_; clear pt_
    have kw1_ : Box w23 (gkw1) #[.int .i64 tI0, .int .i64 (mT kI0 kL1 tI0 tI1)] 40 := kw1.below b23 (by first | omega | (simp [size_drew]; done) | (simp [size_drew]; omega))
    clear kw1; have kw1 := kw1_; clear kw1_
    have kw0_ : Box w23 (gkw0) #[(.slice w0A0 w0n0 w0c0), (.slice w0A1 w0n1 w0c1), (.slice w0A2 w0n2 w0c2), (.slice w0A3 w0n3 w0c3), (.slice w0A4 w0n4 w0c4), (.slice w0A5 w0n5 w0c5)] 68 := kw0.below b23 (by first | omega | (simp [size_drew]; done) | (simp [size_drew]; omega))
    clear kw0; have kw0 := kw0_; clear kw0_
    have xk_ : Box w23 (w10.heap.size) #[.int .i64 kI0, (.slice xkA1 xkn1 xkc1)] 33 := xk.below b23 (by first | omega | (simp [size_drew]; done) | (simp [size_drew]; omega))
    clear xk; have xk := xk_; clear xk_
    have kg1_ : Box w23 (gkg1) #[.int .i64 tI0, .int .i64 (mT kI0 kL1 tI0 tI1)] 40 := kg1.below b23 (by first | omega | (simp [size_drew]; done) | (simp [size_drew]; omega))
    clear kg1; have kg1 := kg1_; clear kg1_
    have kg0_ : Box w23 (gkg0) #[(.slice g0A0 g0n0 g0c0), (.slice g0A1 g0n1 g0c1), (.slice g0A2 g0n2 g0c2), (.slice g0A3 g0n3 g0c3), (.slice g0A4 g0n4 g0c4), (.slice g0A5 g0n5 g0c5)] 68 := kg0.below b23 (by first | omega | (simp [size_drew]; done) | (simp [size_drew]; omega))
    clear kg0; have kg0 := kg0_; clear kg0_
    obtain ⟨ckg0_0, ckg0_1, ckg0_2, ckg0_3, ckg0_4, ckg0_5, fkg0_0, fkg0_1, fkg0_2, fkg0_3, fkg0_4, fkg0_5⟩ := kg0.six
    have l_kg0_0 : gkg0 < w23.heap.size := by omega
    go_wp2_with fail
    refine (markTriple_L (1) _ rg0 (by first | omega | (simp [size_drew]; done) | (simp [size_drew]; omega)) (by omega) rL0_0n rL0_1n rL0_2n rL0_3n rL0_4n rL0_5n).mono ?_
    rintro e w24 ⟨rfl, rg0, c24⟩
    clear ckg0_0 ckg0_1 ckg0_2 ckg0_3 ckg0_4 ckg0_5 fkg0_0 fkg0_1 fkg0_2 fkg0_3 fkg0_4 fkg0_5 l_kg0_0
    have z24 := c24.size
    try simp only [World.size_alloc, World.size_setCell, size_drew] at z24
    have rw0_ := rw0.away c24 (by omega)
    clear rw0; have rw0 := rw0_; clear rw0_
    have pk_ : Box w24 (w.heap.size) #[.int .i64 kI0, (.slice kA1 kn1 kc1)] 30 := pk.chg c24 (by omega)
    clear pk; have pk := pk_; clear pk_
    have pt_ : Box w24 (w.heap.size + 1) #[.int .i64 tI0, .int .i64 tI1] 51 := pt.chg c24 (by omega)
    clear pt; have pt := pt_; clear pt_
    have kw1_ : Box w24 (gkw1) #[.int .i64 tI0, .int .i64 (mT kI0 kL1 tI0 tI1)] 40 := kw1.chg c24 (by omega)
    clear kw1; have kw1 := kw1_; clear kw1_
    have kw0_ : Box w24 (gkw0) #[(.slice w0A0 w0n0 w0c0), (.slice w0A1 w0n1 w0c1), (.slice w0A2 w0n2 w0c2), (.slice w0A3 w0n3 w0c3), (.slice w0A4 w0n4 w0c4), (.slice w0A5 w0n5 w0c5)] 68 := kw0.chg c24 (by omega)
    clear kw0; have kw0 := kw0_; clear kw0_
    have kg1_ : Box w24 (gkg1) #[.int .i64 tI0, .int .i64 (mT kI0 kL1 tI0 tI1)] 40 := kg1.chg c24 (by omega)
    clear kg1; have kg1 := kg1_; clear kg1_
    have kg0_ : Box w24 (gkg0) #[(.slice g0A0 g0n0 g0c0), (.slice g0A1 g0n1 g0c1), (.slice g0A2 g0n2 g0c2), (.slice g0A3 g0n3 g0c3), (.slice g0A4 g0n4 g0c4), (.slice g0A5 g0n5 g0c5)] 68 := kg0.chg c24 (by omega)
    clear kg0; have kg0 := kg0_; clear kg0_
    have B24 : Below w.heap.size w w24 := B23.trans (c24.below (by omega) (by omega))
    obtain ⟨ckg0_0, ckg0_1, ckg0_2, ckg0_3, ckg0_4, ckg0_5, fkg0_0, fkg0_1, fkg0_2, fkg0_3, fkg0_4, fkg0_5⟩ := kg0.six
    have l_kg0_0 : gkg0 < w24.heap.size := by omega
    go_wp2_with fail
    refine (heldTriple_L (mAS kI0 kL1 tI0 tI1).length (mAM kI0 kL1 tI0 tI1).length (mBS kI0 kL1 tI0 tI1).length (mBM kI0 kL1 tI0 tI1).length (mCS kI0 kL1 tI0 tI1).length (mCM kI0 kL1 tI0 tI1).length (1) _ rg0.rd (by first | omega | (simp [size_drew]; done) | (simp [size_drew]; omega)) (by omega) rL0_0n rL0_1n rL0_2n rL0_3n rL0_4n rL0_5n).mono ?_
    rintro e w25 ⟨rfl, b25⟩
    clear ckg0_0 ckg0_1 ckg0_2 ckg0_3 ckg0_4 ckg0_5 fkg0_0 fkg0_1 fkg0_2 fkg0_3 fkg0_4 fkg0_5 l_kg0_0
    have z25 := b25.size
    try simp only [World.size_alloc, World.size_setCell, size_drew] at z25
    have B25 : Below w.heap.size w w25 := Below.t b25
    have rw0_ := rw0.below b25
    clear rw0; have rw0 := rw0_; clear rw0_
    have rg0_ := rg0.below b25
    clear rg0; have rg0 := rg0_; clear rg0_
    have pk_ : Box w25 (w.heap.size) #[.int .i64 kI0, (.slice kA1 kn1 kc1)] 30 := pk.below b25 (by first | omega | (simp [size_drew]; done) | (simp [size_drew]; omega))
    clear pk; have pk := pk_; clear pk_
    have pt_ : Box w25 (w.heap.size + 1) #[.int .i64 tI0, .int .i64 tI1] 51 := pt.below b25 (by first | omega | (simp [size_drew]; done) | (simp [size_drew]; omega))
    clear pt; have pt := pt_; clear pt_
    have kw1_ : Box w25 (gkw1) #[.int .i64 tI0, .int .i64 (mT kI0 kL1 tI0 tI1)] 40 := kw1.below b25 (by first | omega | (simp [size_drew]; done) | (simp [size_drew]; omega))
    clear kw1; have kw1 := kw1_; clear kw1_
    have kw0_ : Box w25 (gkw0) #[(.slice w0A0 w0n0 w0c0), (.slice w0A1 w0n1 w0c1), (.slice w0A2 w0n2 w0c2), (.slice w0A3 w0n3 w0c3), (.slice w0A4 w0n4 w0c4), (.slice w0A5 w0n5 w0c5)] 68 := kw0.below b25 (by first | omega | (simp [size_drew]; done) | (simp [size_drew]; omega))
    clear kw0; have kw0 := kw0_; clear kw0_
    have kg1_ : Box w25 (gkg1) #[.int .i64 tI0, .int .i64 (mT kI0 kL1 tI0 tI1)] 40 := kg1.below b25 (by first | omega | (simp [size_drew]; done) | (simp [size_drew]; omega))
    clear kg1; have kg1 := kg1_; clear kg1_
    have kg0_ : Box w25 (gkg0) #[(.slice g0A0 g0n0 g0c0), (.slice g0A1 g0n1 g0c1), (.slice g0A2 g0n2 g0c2), (.slice g0A3 g0n3 g0c3), (.slice g0A4 g0n4 g0c4), (.slice g0A5 g0n5 g0c5)] 68 := kg0.below b25 (by first | omega | (simp [size_drew]; done) | (simp [size_drew]; omega))
    clear kg0; have kg0 := kg0_; clear kg0_
    obtain ⟨cpk_0, cpk_1, fpk_0, fpk_1⟩ := pk.two
    have l_pk_0 : w.heap.size < w25.heap.size := by omega
    obtain ⟨cpt_0, cpt_1, fpt_0, fpt_1⟩ := pt.two
    have l_pt_0 : w.heap.size + 1 < w25.heap.size := by omega
    go_wp2_with fail
    clear cpk_0 cpk_1 fpk_0 fpk_1 l_pk_0 cpt_0 cpt_1 fpt_0 fpt_1 l_pt_0
    refine wp_region_M [10, 11] (w25.heap.size) 12 (S := fun W => Below w.heap.size w W ∧ Below w25.heap.size w25 W ∧ W.cell? ⟨w.heap.size, 0, none⟩ = some (.int .i64 kI0) ∧ W.cell? ⟨w.heap.size, 1, none⟩ = some ((.slice kA1 kn1 kc1)) ∧ W.cell? ⟨w.heap.size + 1, 0, none⟩ = some (.int .i64 tI0) ∧ W.cell? ⟨w.heap.size + 1, 1, none⟩ = some (.int .i64 tI1)) (by kernel_rfl) (by rfl) (fun W hW => ⟨Below.trans (b := _) (by repeat (with_reducible (first | assumption | exact Below.refl _ _ | refine Below.alloc ?_ (by first | omega | (simp; done) | (simp; omega)) _ | refine Below.setCell ?_ (by first | omega | (simp; done) | (simp; omega)) _ | refine Below.drew ?_ | refine below_drewN ?_ _))) (Below.mono hW (by first | omega | (simp [size_drew]; done) | (simp [size_drew]; omega))), Below.trans (b := _) (by repeat (with_reducible (first | assumption | exact Below.refl _ _ | refine Below.alloc ?_ (by first | omega | (simp; done) | (simp; omega)) _ | refine Below.setCell ?_ (by first | omega | (simp; done) | (simp; omega)) _ | refine Below.drew ?_ | refine below_drewN ?_ _))) (Below.mono hW (by first | omega | (simp [size_drew]; done) | (simp [size_drew]; omega))), (Box.below pk.drew hW (by first | omega | (simp [size_drew]; done) | (simp [size_drew]; omega))).two.1, (Box.below pk.drew hW (by first | omega | (simp [size_drew]; done) | (simp [size_drew]; omega))).two.2.1, (Box.below pt.drew hW (by first | omega | (simp [size_drew]; done) | (simp [size_drew]; omega))).two.1, (Box.below pt.drew hW (by first | omega | (simp [size_drew]; done) | (simp [size_drew]; omega))).two.2.1⟩) (by first | omega | (simp [size_drew]; done) | (simp [size_drew]; omega)) (fun hS hG => ?_)
    (try dsimp only at hS)
    refine pendM 8 14 #[.slice none 0 0, .slice none 0 0, .slice none 0 0, .slice none 0 0, .slice none 0 0, .slice none 0 0] 68 (by simp only [List.getElem?_toArray, List.getElem?_cons_succ, List.getElem?_cons_zero] <;> rfl) (by kernel_rfl) (by exact fun _ _ _ _ h => h) (by intro a W; unfold ptr; go_simp; (first | done | rfl)) hG ?_
    refine pendM 9 15 #[.int .i64 0, .int .i64 0] 40 (by simp only [List.getElem?_toArray, List.getElem?_cons_succ, List.getElem?_cons_zero] <;> rfl) (by kernel_rfl) (by exact fun _ _ _ _ h => h) (by intro a W; unfold ptr; go_simp; (first | done | rfl)) hG ?_
    (refine tkM 0 hG hS ?_; (try simp only [Act.put, List.setIfInBounds_toArray, List.set_cons_zero, List.set_cons_succ]))
    (refine tkM 2 hG hS ?_; (try simp only [Act.put, List.setIfInBounds_toArray, List.set_cons_zero, List.set_cons_succ]))
    refine callM hG (i := 1) (by simp only [List.getElem?_toArray, List.getElem?_cons_succ, List.getElem?_cons_zero] <;> rfl) (by kernel_rfl) (by rfl) (by rfl) (by intro W hW; have hSw := hS W hW; (try dsimp only at hSw); go_simp; (first | done | with_reducible rfl | exact ⟨rfl, rfl⟩)) ?_
    intro w26 b26
    have B26 : Below w.heap.size w w26 := (hS w26 b26).1
    have z26 := Below.size b26
    (try simp only [World.size_alloc, World.size_setCell, size_drew] at z26)
    have rw0_ := (rw0.drew.below b26)
    clear rw0; have rw0 := rw0_; clear rw0_
    have rg0_ := (rg0.drew.below b26)
    clear rg0; have rg0 := rg0_; clear rg0_
    have pk_ : Box w26 (w.heap.size) #[.int .i64 kI0, (.slice kA1 kn1 kc1)] 30 := (Box.b pk.drew b26)
    clear pk; have pk := pk_; clear pk_
    have pt_ : Box w26 (w.heap.size + 1) #[.int .i64 tI0, .int .i64 tI1] 51 := (Box.b pt.drew b26)
    clear pt; have pt := pt_; clear pt_
    have kw1_ : Box w26 (gkw1) #[.int .i64 tI0, .int .i64 (mT kI0 kL1 tI0 tI1)] 40 := (Box.b kw1.drew b26)
    clear kw1; have kw1 := kw1_; clear kw1_
    have kw0_ : Box w26 (gkw0) #[(.slice w0A0 w0n0 w0c0), (.slice w0A1 w0n1 w0c1), (.slice w0A2 w0n2 w0c2), (.slice w0A3 w0n3 w0c3), (.slice w0A4 w0n4 w0c4), (.slice w0A5 w0n5 w0c5)] 68 := (Box.b kw0.drew b26)
    clear kw0; have kw0 := kw0_; clear kw0_
    have kg1_ : Box w26 (gkg1) #[.int .i64 tI0, .int .i64 (mT kI0 kL1 tI0 tI1)] 40 := (Box.b kg1.drew b26)
    clear kg1; have kg1 := kg1_; clear kg1_
    have kg0_ : Box w26 (gkg0) #[(.slice g0A0 g0n0 g0c0), (.slice g0A1 g0n1 g0c1), (.slice g0A2 g0n2 g0c2), (.slice g0A3 g0n3 g0c3), (.slice g0A4 g0n4 g0c4), (.slice g0A5 g0n5 g0c5)] 68 := (Box.b kg0.drew b26)
    clear kg0; have kg0 := kg0_; clear kg0_
    clear hS hG
    go_at_call 35
    refine (toKeys_L kI0 (RdL.cons (d := .ints kL1) kL1h.rd.b RdL.nil) kL1n).mono ?_
    rintro e w27 ⟨tkA1, tkn1, tkc1, rfl, rtk, b27⟩
    refine ⟨_, rfl, b27, fun hG => ?_⟩
    have z27 := Below.size b27
    have B27 : Below w.heap.size w w27 := Below.t b27
    have rw0_ := (rw0.below b27)
    clear rw0; have rw0 := rw0_; clear rw0_
    have rg0_ := (rg0.below b27)
    clear rg0; have rg0 := rg0_; clear rg0_
    have pk_ : Box w27 (w.heap.size) #[.int .i64 kI0, (.slice kA1 kn1 kc1)] 30 := (Box.b pk b27)
    clear pk; have pk := pk_; clear pk_
    have pt_ : Box w27 (w.heap.size + 1) #[.int .i64 tI0, .int .i64 tI1] 51 := (Box.b pt b27)
    clear pt; have pt := pt_; clear pt_
    have kw1_ : Box w27 (gkw1) #[.int .i64 tI0, .int .i64 (mT kI0 kL1 tI0 tI1)] 40 := (Box.b kw1 b27)
    clear kw1; have kw1 := kw1_; clear kw1_
    have kw0_ : Box w27 (gkw0) #[(.slice w0A0 w0n0 w0c0), (.slice w0A1 w0n1 w0c1), (.slice w0A2 w0n2 w0c2), (.slice w0A3 w0n3 w0c3), (.slice w0A4 w0n4 w0c4), (.slice w0A5 w0n5 w0c5)] 68 := (Box.b kw0 b27)
    clear kw0; have kw0 := kw0_; clear kw0_
    have kg1_ : Box w27 (gkg1) #[.int .i64 tI0, .int .i64 (mT kI0 kL1 tI0 tI1)] 40 := (Box.b kg1 b27)
    clear kg1; have kg1 := kg1_; clear kg1_
    have kg0_ : Box w27 (gkg0) #[(.slice g0A0 g0n0 g0c0), (.slice g0A1 g0n1 g0c1), (.slice g0A2 g0n2 g0c2), (.slice g0A3 g0n3 g0c3), (.slice g0A4 g0n4 g0c4), (.slice g0A5 g0n5 g0c5)] 68 := (Box.b kg0 b27)
    clear kg0; have kg0 := kg0_; clear kg0_
    (try simp only [Act.put, List.setIfInBounds_toArray, List.set_cons_zero, List.set_cons_succ])
    have hS : ∀ W, Later w27 W → (Below w.heap.size w W ∧ Below w27.heap.size w27 W ∧ W.cell? ⟨w.heap.size, 0, none⟩ = some (.int .i64 kI0) ∧ W.cell? ⟨w.heap.size, 1, none⟩ = some ((.slice kA1 kn1 kc1)) ∧ W.cell? ⟨w.heap.size + 1, 0, none⟩ = some (.int .i64 tI0) ∧ W.cell? ⟨w.heap.size + 1, 1, none⟩ = some (.int .i64 tI1)) := fun W hW => ⟨Below.trans (b := _) (by repeat (with_reducible (first | assumption | exact Below.refl _ _ | refine Below.alloc ?_ (by first | omega | (simp; done) | (simp; omega)) _ | refine Below.setCell ?_ (by first | omega | (simp; done) | (simp; omega)) _ | refine Below.drew ?_ | refine below_drewN ?_ _))) (Below.mono hW (by first | omega | (simp [size_drew]; done) | (simp [size_drew]; omega))), Below.trans (b := _) (by repeat (with_reducible (first | assumption | exact Below.refl _ _ | refine Below.alloc ?_ (by first | omega | (simp; done) | (simp; omega)) _ | refine Below.setCell ?_ (by first | omega | (simp; done) | (simp; omega)) _ | refine Below.drew ?_ | refine below_drewN ?_ _))) (Below.mono hW (by first | omega | (simp [size_drew]; done) | (simp [size_drew]; omega))), (Box.below pk hW (by first | omega | (simp [size_drew]; done) | (simp [size_drew]; omega))).two.1, (Box.below pk hW (by first | omega | (simp [size_drew]; done) | (simp [size_drew]; omega))).two.2.1, (Box.below pt hW (by first | omega | (simp [size_drew]; done) | (simp [size_drew]; omega))).two.1, (Box.below pt hW (by first | omega | (simp [size_drew]; done) | (simp [size_drew]; omega))).two.2.1⟩
    refine callM hG (i := 3) (by simp only [List.getElem?_toArray, List.getElem?_cons_succ, List.getElem?_cons_zero] <;> rfl) (by kernel_rfl) (by rfl) (by rfl) (by intro W hW; have hSw := hS W hW; (try dsimp only at hSw); go_simp; (first | done | with_reducible rfl | exact ⟨rfl, rfl⟩)) ?_
    intro w28 b28
    have B28 : Below w.heap.size w w28 := (hS w28 b28).1
    have z28 := Below.size b28
    (try simp only [World.size_alloc, World.size_setCell, size_drew] at z28)
    have rw0_ := (rw0.below b28)
    clear rw0; have rw0 := rw0_; clear rw0_
    have rg0_ := (rg0.below b28)
    clear rg0; have rg0 := rg0_; clear rg0_
    have rtk_ := (rtk.below b28)
    clear rtk; have rtk := rtk_; clear rtk_
    have pk_ : Box w28 (w.heap.size) #[.int .i64 kI0, (.slice kA1 kn1 kc1)] 30 := (Box.b pk b28)
    clear pk; have pk := pk_; clear pk_
    have pt_ : Box w28 (w.heap.size + 1) #[.int .i64 tI0, .int .i64 tI1] 51 := (Box.b pt b28)
    clear pt; have pt := pt_; clear pt_
    have kw1_ : Box w28 (gkw1) #[.int .i64 tI0, .int .i64 (mT kI0 kL1 tI0 tI1)] 40 := (Box.b kw1 b28)
    clear kw1; have kw1 := kw1_; clear kw1_
    have kw0_ : Box w28 (gkw0) #[(.slice w0A0 w0n0 w0c0), (.slice w0A1 w0n1 w0c1), (.slice w0A2 w0n2 w0c2), (.slice w0A3 w0n3 w0c3), (.slice w0A4 w0n4 w0c4), (.slice w0A5 w0n5 w0c5)] 68 := (Box.b kw0 b28)
    clear kw0; have kw0 := kw0_; clear kw0_
    have kg1_ : Box w28 (gkg1) #[.int .i64 tI0, .int .i64 (mT kI0 kL1 tI0 tI1)] 40 := (Box.b kg1 b28)
    clear kg1; have kg1 := kg1_; clear kg1_
    have kg0_ : Box w28 (gkg0) #[(.slice g0A0 g0n0 g0c0), (.slice g0A1 g0n1 g0c1), (.slice g0A2 g0n2 g0c2), (.slice g0A3 g0n3 g0c3), (.slice g0A4 g0n4 g0c4), (.slice g0A5 g0n5 g0c5)] 68 := (Box.b kg0 b28)
    clear kg0; have kg0 := kg0_; clear kg0_
    clear hS hG
    go_at_call 47
    refine (toTape_L tI0 tI1).mono ?_
    rintro e w29 ⟨rfl, b29⟩
    refine ⟨_, rfl, b29, fun hG => ?_⟩
    have z29 := Below.size b29
    have B29 : Below w.heap.size w w29 := Below.t b29
    have rw0_ := (rw0.below b29)
    clear rw0; have rw0 := rw0_; clear rw0_
    have rg0_ := (rg0.below b29)
    clear rg0; have rg0 := rg0_; clear rg0_
    have rtk_ := (rtk.below b29)
    clear rtk; have rtk := rtk_; clear rtk_
    have pk_ : Box w29 (w.heap.size) #[.int .i64 kI0, (.slice kA1 kn1 kc1)] 30 := (Box.b pk b29)
    clear pk; have pk := pk_; clear pk_
    have pt_ : Box w29 (w.heap.size + 1) #[.int .i64 tI0, .int .i64 tI1] 51 := (Box.b pt b29)
    clear pt; have pt := pt_; clear pt_
    have kw1_ : Box w29 (gkw1) #[.int .i64 tI0, .int .i64 (mT kI0 kL1 tI0 tI1)] 40 := (Box.b kw1 b29)
    clear kw1; have kw1 := kw1_; clear kw1_
    have kw0_ : Box w29 (gkw0) #[(.slice w0A0 w0n0 w0c0), (.slice w0A1 w0n1 w0c1), (.slice w0A2 w0n2 w0c2), (.slice w0A3 w0n3 w0c3), (.slice w0A4 w0n4 w0c4), (.slice w0A5 w0n5 w0c5)] 68 := (Box.b kw0 b29)
    clear kw0; have kw0 := kw0_; clear kw0_
    have kg1_ : Box w29 (gkg1) #[.int .i64 tI0, .int .i64 (mT kI0 kL1 tI0 tI1)] 40 := (Box.b kg1 b29)
    clear kg1; have kg1 := kg1_; clear kg1_
    have kg0_ : Box w29 (gkg0) #[(.slice g0A0 g0n0 g0c0), (.slice g0A1 g0n1 g0c1), (.slice g0A2 g0n2 g0c2), (.slice g0A3 g0n3 g0c3), (.slice g0A4 g0n4 g0c4), (.slice g0A5 g0n5 g0c5)] 68 := (Box.b kg0 b29)
    clear kg0; have kg0 := kg0_; clear kg0_
    (try simp only [Act.put, List.setIfInBounds_toArray, List.set_cons_zero, List.set_cons_succ])
    have hS : ∀ W, Later w29 W → (Below w.heap.size w W ∧ Below w29.heap.size w29 W ∧ W.cell? ⟨w.heap.size, 0, none⟩ = some (.int .i64 kI0) ∧ W.cell? ⟨w.heap.size, 1, none⟩ = some ((.slice kA1 kn1 kc1)) ∧ W.cell? ⟨w.heap.size + 1, 0, none⟩ = some (.int .i64 tI0) ∧ W.cell? ⟨w.heap.size + 1, 1, none⟩ = some (.int .i64 tI1)) := fun W hW => ⟨Below.trans (b := _) (by repeat (with_reducible (first | assumption | exact Below.refl _ _ | refine Below.alloc ?_ (by first | omega | (simp; done) | (simp; omega)) _ | refine Below.setCell ?_ (by first | omega | (simp; done) | (simp; omega)) _ | refine Below.drew ?_ | refine below_drewN ?_ _))) (Below.mono hW (by first | omega | (simp [size_drew]; done) | (simp [size_drew]; omega))), Below.trans (b := _) (by repeat (with_reducible (first | assumption | exact Below.refl _ _ | refine Below.alloc ?_ (by first | omega | (simp; done) | (simp; omega)) _ | refine Below.setCell ?_ (by first | omega | (simp; done) | (simp; omega)) _ | refine Below.drew ?_ | refine below_drewN ?_ _))) (Below.mono hW (by first | omega | (simp [size_drew]; done) | (simp [size_drew]; omega))), (Box.below pk hW (by first | omega | (simp [size_drew]; done) | (simp [size_drew]; omega))).two.1, (Box.below pk hW (by first | omega | (simp [size_drew]; done) | (simp [size_drew]; omega))).two.2.1, (Box.below pt hW (by first | omega | (simp [size_drew]; done) | (simp [size_drew]; omega))).two.1, (Box.below pt hW (by first | omega | (simp [size_drew]; done) | (simp [size_drew]; omega))).two.2.1⟩
    refine callM hG (i := 4) (by simp only [List.getElem?_toArray, List.getElem?_cons_succ, List.getElem?_cons_zero] <;> rfl) (by kernel_rfl) (by rfl) (by rfl) (by intro W hW; have hSw := hS W hW; (try dsimp only at hSw); go_simp; (first | done | with_reducible rfl | exact ⟨rfl, rfl⟩)) ?_
    intro w30 b30
    have B30 : Below w.heap.size w w30 := (hS w30 b30).1
    have z30 := Below.size b30
    (try simp only [World.size_alloc, World.size_setCell, size_drew] at z30)
    have rw0_ := (rw0.below b30)
    clear rw0; have rw0 := rw0_; clear rw0_
    have rg0_ := (rg0.below b30)
    clear rg0; have rg0 := rg0_; clear rg0_
    have rtk_ := (rtk.below b30)
    clear rtk; have rtk := rtk_; clear rtk_
    have pk_ : Box w30 (w.heap.size) #[.int .i64 kI0, (.slice kA1 kn1 kc1)] 30 := (Box.b pk b30)
    clear pk; have pk := pk_; clear pk_
    have pt_ : Box w30 (w.heap.size + 1) #[.int .i64 tI0, .int .i64 tI1] 51 := (Box.b pt b30)
    clear pt; have pt := pt_; clear pt_
    have kw1_ : Box w30 (gkw1) #[.int .i64 tI0, .int .i64 (mT kI0 kL1 tI0 tI1)] 40 := (Box.b kw1 b30)
    clear kw1; have kw1 := kw1_; clear kw1_
    have kw0_ : Box w30 (gkw0) #[(.slice w0A0 w0n0 w0c0), (.slice w0A1 w0n1 w0c1), (.slice w0A2 w0n2 w0c2), (.slice w0A3 w0n3 w0c3), (.slice w0A4 w0n4 w0c4), (.slice w0A5 w0n5 w0c5)] 68 := (Box.b kw0 b30)
    clear kw0; have kw0 := kw0_; clear kw0_
    have kg1_ : Box w30 (gkg1) #[.int .i64 tI0, .int .i64 (mT kI0 kL1 tI0 tI1)] 40 := (Box.b kg1 b30)
    clear kg1; have kg1 := kg1_; clear kg1_
    have kg0_ : Box w30 (gkg0) #[(.slice g0A0 g0n0 g0c0), (.slice g0A1 g0n1 g0c1), (.slice g0A2 g0n2 g0c2), (.slice g0A3 g0n3 g0c3), (.slice g0A4 g0n4 g0c4), (.slice g0A5 g0n5 g0c5)] 68 := (Box.b kg0 b30)
    clear kg0; have kg0 := kg0_; clear kg0_
    clear hS hG
    go_at_call 84
    refine (iTripleNew_L kI0 rtk.rd kL1n tI0 tI1).mono ?_
    rintro e w31 ⟨h0A0, h0n0, h0c0, h0A1, h0n1, h0c1, h0A2, h0n2, h0c2, h0A3, h0n3, h0c3, h0A4, h0n4, h0c4, h0A5, h0n5, h0c5, rfl, rh0, b31⟩
    refine ⟨_, rfl, b31, fun hG => ?_⟩
    have z31 := Below.size b31
    have B31 : Below w.heap.size w w31 := Below.t b31
    have rw0_ := (rw0.below b31)
    clear rw0; have rw0 := rw0_; clear rw0_
    have rg0_ := (rg0.below b31)
    clear rg0; have rg0 := rg0_; clear rg0_
    have rtk_ := (rtk.below b31)
    clear rtk; have rtk := rtk_; clear rtk_
    have pk_ : Box w31 (w.heap.size) #[.int .i64 kI0, (.slice kA1 kn1 kc1)] 30 := (Box.b pk b31)
    clear pk; have pk := pk_; clear pk_
    have pt_ : Box w31 (w.heap.size + 1) #[.int .i64 tI0, .int .i64 tI1] 51 := (Box.b pt b31)
    clear pt; have pt := pt_; clear pt_
    have kw1_ : Box w31 (gkw1) #[.int .i64 tI0, .int .i64 (mT kI0 kL1 tI0 tI1)] 40 := (Box.b kw1 b31)
    clear kw1; have kw1 := kw1_; clear kw1_
    have kw0_ : Box w31 (gkw0) #[(.slice w0A0 w0n0 w0c0), (.slice w0A1 w0n1 w0c1), (.slice w0A2 w0n2 w0c2), (.slice w0A3 w0n3 w0c3), (.slice w0A4 w0n4 w0c4), (.slice w0A5 w0n5 w0c5)] 68 := (Box.b kw0 b31)
    clear kw0; have kw0 := kw0_; clear kw0_
    have kg1_ : Box w31 (gkg1) #[.int .i64 tI0, .int .i64 (mT kI0 kL1 tI0 tI1)] 40 := (Box.b kg1 b31)
    clear kg1; have kg1 := kg1_; clear kg1_
    have kg0_ : Box w31 (gkg0) #[(.slice g0A0 g0n0 g0c0), (.slice g0A1 g0n1 g0c1), (.slice g0A2 g0n2 g0c2), (.slice g0A3 g0n3 g0c3), (.slice g0A4 g0n4 g0c4), (.slice g0A5 g0n5 g0c5)] 68 := (Box.b kg0 b31)
    clear kg0; have kg0 := kg0_; clear kg0_
    (try simp only [Act.put, List.setIfInBounds_toArray, List.set_cons_zero, List.set_cons_succ])
    have hS : ∀ W, Later w31 W → (Below w.heap.size w W ∧ Below w31.heap.size w31 W ∧ W.cell? ⟨w.heap.size, 0, none⟩ = some (.int .i64 kI0) ∧ W.cell? ⟨w.heap.size, 1, none⟩ = some ((.slice kA1 kn1 kc1)) ∧ W.cell? ⟨w.heap.size + 1, 0, none⟩ = some (.int .i64 tI0) ∧ W.cell? ⟨w.heap.size + 1, 1, none⟩ = some (.int .i64 tI1)) := fun W hW => ⟨Below.trans (b := _) (by repeat (with_reducible (first | assumption | exact Below.refl _ _ | refine Below.alloc ?_ (by first | omega | (simp; done) | (simp; omega)) _ | refine Below.setCell ?_ (by first | omega | (simp; done) | (simp; omega)) _ | refine Below.drew ?_ | refine below_drewN ?_ _))) (Below.mono hW (by first | omega | (simp [size_drew]; done) | (simp [size_drew]; omega))), Below.trans (b := _) (by repeat (with_reducible (first | assumption | exact Below.refl _ _ | refine Below.alloc ?_ (by first | omega | (simp; done) | (simp; omega)) _ | refine Below.setCell ?_ (by first | omega | (simp; done) | (simp; omega)) _ | refine Below.drew ?_ | refine below_drewN ?_ _))) (Below.mono hW (by first | omega | (simp [size_drew]; done) | (simp [size_drew]; omega))), (Box.below pk hW (by first | omega | (simp [size_drew]; done) | (simp [size_drew]; omega))).two.1, (Box.below pk hW (by first | omega | (simp [size_drew]; done) | (simp [size_drew]; omega))).two.2.1, (Box.below pt hW (by first | omega | (simp [size_drew]; done) | (simp [size_drew]; omega))).two.1, (Box.below pt hW (by first | omega | (simp [size_drew]; done) | (simp [size_drew]; omega))).two.2.1⟩
    (refine tkM 5 hG hS ?_; (try simp only [Act.put, List.setIfInBounds_toArray, List.set_cons_zero, List.set_cons_succ]))
    (refine tkM 6 hG hS ?_; (try simp only [Act.put, List.setIfInBounds_toArray, List.set_cons_zero, List.set_cons_succ]))
    (refine tkY 7 hG ?_; (try simp only [Act.put, List.setIfInBounds_toArray, List.set_cons_zero, List.set_cons_succ]))
    refine storeM (z := 10) (by simp only [List.getElem?_toArray, List.getElem?_cons_succ, List.getElem?_cons_zero] <;> rfl) (by kernel_rfl) (by rfl) (by rfl) ?_
    intro w32 b32
    have B32 : Below w.heap.size w w32 := (hS w32 b32).1
    have z32 := Below.size b32
    (try simp only [World.size_alloc, World.size_setCell, size_drew] at z32)
    have rw0_ := (rw0.below b32)
    clear rw0; have rw0 := rw0_; clear rw0_
    have rg0_ := (rg0.below b32)
    clear rg0; have rg0 := rg0_; clear rg0_
    have rtk_ := (rtk.below b32)
    clear rtk; have rtk := rtk_; clear rtk_
    have rh0_ := (rh0.below b32)
    clear rh0; have rh0 := rh0_; clear rh0_
    have pk_ : Box w32 (w.heap.size) #[.int .i64 kI0, (.slice kA1 kn1 kc1)] 30 := (Box.b pk b32)
    clear pk; have pk := pk_; clear pk_
    have pt_ : Box w32 (w.heap.size + 1) #[.int .i64 tI0, .int .i64 tI1] 51 := (Box.b pt b32)
    clear pt; have pt := pt_; clear pt_
    have kw1_ : Box w32 (gkw1) #[.int .i64 tI0, .int .i64 (mT kI0 kL1 tI0 tI1)] 40 := (Box.b kw1 b32)
    clear kw1; have kw1 := kw1_; clear kw1_
    have kw0_ : Box w32 (gkw0) #[(.slice w0A0 w0n0 w0c0), (.slice w0A1 w0n1 w0c1), (.slice w0A2 w0n2 w0c2), (.slice w0A3 w0n3 w0c3), (.slice w0A4 w0n4 w0c4), (.slice w0A5 w0n5 w0c5)] 68 := (Box.b kw0 b32)
    clear kw0; have kw0 := kw0_; clear kw0_
    have kg1_ : Box w32 (gkg1) #[.int .i64 tI0, .int .i64 (mT kI0 kL1 tI0 tI1)] 40 := (Box.b kg1 b32)
    clear kg1; have kg1 := kg1_; clear kg1_
    have kg0_ : Box w32 (gkg0) #[(.slice g0A0 g0n0 g0c0), (.slice g0A1 g0n1 g0c1), (.slice g0A2 g0n2 g0c2), (.slice g0A3 g0n3 g0c3), (.slice g0A4 g0n4 g0c4), (.slice g0A5 g0n5 g0c5)] 68 := (Box.b kg0 b32)
    clear kg0; have kg0 := kg0_; clear kg0_
    clear hS hG
    refine Zc.cons fun gkh1 kh1 nkh1 => ?_
    have nkh1_0 := nkh1 (w30.heap.size, w31.heap.size) (by simp)
    dsimp only at nkh1_0 kh1
    have nkh1_1 := nkh1 (w28.heap.size, w29.heap.size) (by simp)
    dsimp only at nkh1_1 kh1
    have nkh1_2 := nkh1 (w26.heap.size, w27.heap.size) (by simp)
    dsimp only at nkh1_2 kh1
    have nkh1_3 := nkh1 (0, w25.heap.size) (by simp)
    dsimp only at nkh1_3 kh1
    clear nkh1
    refine Zc.cons fun gkh0 kh0 nkh0 => ?_
    have nkh0_0 := nkh0 (gkh1, gkh1 + 1) (by simp)
    dsimp only at nkh0_0 kh0
    have nkh0_1 := nkh0 (w30.heap.size, w31.heap.size) (by simp)
    dsimp only at nkh0_1 kh0
    have nkh0_2 := nkh0 (w28.heap.size, w29.heap.size) (by simp)
    dsimp only at nkh0_2 kh0
    have nkh0_3 := nkh0 (w26.heap.size, w27.heap.size) (by simp)
    dsimp only at nkh0_3 kh0
    have nkh0_4 := nkh0 (0, w25.heap.size) (by simp)
    dsimp only at nkh0_4 kh0
    clear nkh0
    refine Zc.nil ?_
    (try unfold ptr)
    (try simp only [Act.put, List.setIfInBounds_toArray, List.set_cons_zero, List.set_cons_succ])
    have lkh0 := kh0.lt
    have lkh1 := kh1.lt
    obtain ⟨ckh0_0, ckh0_1, ckh0_2, ckh0_3, ckh0_4, ckh0_5, fkh0_0, fkh0_1, fkh0_2, fkh0_3, fkh0_4, fkh0_5⟩ := kh0.six
    obtain ⟨ckh1_0, ckh1_1, fkh1_0, fkh1_1⟩ := kh1.two
    have ne_kh0_kh1 : gkh0 ≠ gkh1 := by omega
    have ne_kh1_kh0 : gkh1 ≠ gkh0 := by omega
    refine ⟨_, by go_simp; (first | done | with_reducible rfl | exact ⟨rfl, rfl⟩), ?_⟩
    (try simp only [Act.put, List.setIfInBounds_toArray, List.set_cons_zero, List.set_cons_succ])
    refine skipAny (i := 11) (by simp only [List.getElem?_toArray, List.getElem?_cons_succ, List.getElem?_cons_zero] <;> rfl) (by kernel_rfl) (by rfl) (by go_simp; (first | done | with_reducible rfl | exact ⟨rfl, rfl⟩)) ?_
    (try simp only [Act.put, List.setIfInBounds_toArray, List.set_cons_zero, List.set_cons_succ])
    refine wpAny_done (by kernel_rfl) ?_ _
    clear ckh0_0 ckh0_1 ckh0_2 ckh0_3 ckh0_4 ckh0_5 fkh0_0 fkh0_1 fkh0_2 fkh0_3 fkh0_4 fkh0_5 ckh1_0 ckh1_1 fkh1_0 fkh1_1 ne_kh0_kh1 ne_kh1_kh0
    generalize hw33 : World.setCell _ _ _ = w33
    have z33 : w32.heap.size ≤ w33.heap.size := by rw [← hw33]; simp
    have B33 : Below w.heap.size w w33 := by rw [← hw33]; repeat (with_reducible (first | assumption | exact Below.refl _ _ | refine Below.alloc ?_ (by first | omega | (simp; done) | (simp; omega)) _ | refine Below.setCell ?_ (by first | omega | (simp; done) | (simp; omega)) _ | refine Below.drew ?_ | refine below_drewN ?_ _))
    have hK : ∀ k, k ≠ gkh0 → k ≠ gkh1 → k < w32.heap.size → w33.heap[k]? = w32.heap[k]? := by
      intro k h0 h1 _; rw [← hw33]
      refine (Below.heap_setCell _ _ _ _ (by exact h1)).trans ?_
      refine (Below.heap_setCell _ _ _ _ (by exact h1)).trans ?_
      refine (Below.heap_setCell _ _ _ _ (by exact h0)).trans ?_
      refine (Below.heap_setCell _ _ _ _ (by exact h0)).trans ?_
      refine (Below.heap_setCell _ _ _ _ (by exact h0)).trans ?_
      refine (Below.heap_setCell _ _ _ _ (by exact h0)).trans ?_
      refine (Below.heap_setCell _ _ _ _ (by exact h0)).trans ?_
      refine (Below.heap_setCell _ _ _ _ (by exact h0)).trans ?_
      rfl
    have rw0_ := rw0.keepBlock z33 (fun k h1 h2 => hK k (by omega) (by omega) (by have := rw0.2.1; omega))
    clear rw0; have rw0 := rw0_; clear rw0_
    have rg0_ := rg0.keepBlock z33 (fun k h1 h2 => hK k (by omega) (by omega) (by have := rg0.2.1; omega))
    clear rg0; have rg0 := rg0_; clear rg0_
    have rtk_ := rtk.keepBlock z33 (fun k h1 h2 => hK k (by omega) (by omega) (by have := rtk.2.1; omega))
    clear rtk; have rtk := rtk_; clear rtk_
    have rh0_ := rh0.keepBlock z33 (fun k h1 h2 => hK k (by omega) (by omega) (by have := rh0.2.1; omega))
    clear rh0; have rh0 := rh0_; clear rh0_
    have pk_ : Box w33 (w.heap.size) #[.int .i64 kI0, (.slice kA1 kn1 kc1)] 30 := (by rw [← hw33]; exact ((((((((pk.far (by omega)).far (by omega)).far (by omega)).far (by omega)).far (by omega)).far (by omega)).far (by omega)).far (by omega)))
    clear pk; have pk := pk_; clear pk_
    have pt_ : Box w33 (w.heap.size + 1) #[.int .i64 tI0, .int .i64 tI1] 51 := (by rw [← hw33]; exact ((((((((pt.far (by omega)).far (by omega)).far (by omega)).far (by omega)).far (by omega)).far (by omega)).far (by omega)).far (by omega)))
    clear pt; have pt := pt_; clear pt_
    have kw1_ : Box w33 (gkw1) #[.int .i64 tI0, .int .i64 (mT kI0 kL1 tI0 tI1)] 40 := (by rw [← hw33]; exact ((((((((kw1.far (by omega)).far (by omega)).far (by omega)).far (by omega)).far (by omega)).far (by omega)).far (by omega)).far (by omega)))
    clear kw1; have kw1 := kw1_; clear kw1_
    have kw0_ : Box w33 (gkw0) #[(.slice w0A0 w0n0 w0c0), (.slice w0A1 w0n1 w0c1), (.slice w0A2 w0n2 w0c2), (.slice w0A3 w0n3 w0c3), (.slice w0A4 w0n4 w0c4), (.slice w0A5 w0n5 w0c5)] 68 := (by rw [← hw33]; exact ((((((((kw0.far (by omega)).far (by omega)).far (by omega)).far (by omega)).far (by omega)).far (by omega)).far (by omega)).far (by omega)))
    clear kw0; have kw0 := kw0_; clear kw0_
    have kg1_ : Box w33 (gkg1) #[.int .i64 tI0, .int .i64 (mT kI0 kL1 tI0 tI1)] 40 := (by rw [← hw33]; exact ((((((((kg1.far (by omega)).far (by omega)).far (by omega)).far (by omega)).far (by omega)).far (by omega)).far (by omega)).far (by omega)))
    clear kg1; have kg1 := kg1_; clear kg1_
    have kg0_ : Box w33 (gkg0) #[(.slice g0A0 g0n0 g0c0), (.slice g0A1 g0n1 g0c1), (.slice g0A2 g0n2 g0c2), (.slice g0A3 g0n3 g0c3), (.slice g0A4 g0n4 g0c4), (.slice g0A5 g0n5 g0c5)] 68 := (by rw [← hw33]; exact ((((((((kg0.far (by omega)).far (by omega)).far (by omega)).far (by omega)).far (by omega)).far (by omega)).far (by omega)).far (by omega)))
    clear kg0; have kg0 := kg0_; clear kg0_
    have kh1_ : Box w33 (gkh1) #[.int .i64 tI0, .int .i64 (mT kI0 kL1 tI0 tI1)] 40 := (by rw [← hw33]; exact ((((((((kh1.far (by omega)).far (by omega)).far (by omega)).far (by omega)).far (by omega)).far (by omega)).setAt (i := 0) (v := .int .i64 tI0) (ds := #[.int .i64 tI0, .int .i64 0]) (by simp)).setAt (i := 1) (v := .int .i64 (mT kI0 kL1 tI0 tI1)) (ds := #[.int .i64 tI0, .int .i64 (mT kI0 kL1 tI0 tI1)]) (by simp)))
    clear kh1; have kh1 := kh1_; clear kh1_
    have kh0_ : Box w33 (gkh0) #[(.slice h0A0 h0n0 h0c0), (.slice h0A1 h0n1 h0c1), (.slice h0A2 h0n2 h0c2), (.slice h0A3 h0n3 h0c3), (.slice h0A4 h0n4 h0c4), (.slice h0A5 h0n5 h0c5)] 68 := (by rw [← hw33]; exact ((((((((kh0.setAt (i := 0) (v := (.slice h0A0 h0n0 h0c0)) (ds := #[(.slice h0A0 h0n0 h0c0), .slice none 0 0, .slice none 0 0, .slice none 0 0, .slice none 0 0, .slice none 0 0]) (by simp)).setAt (i := 1) (v := (.slice h0A1 h0n1 h0c1)) (ds := #[(.slice h0A0 h0n0 h0c0), (.slice h0A1 h0n1 h0c1), .slice none 0 0, .slice none 0 0, .slice none 0 0, .slice none 0 0]) (by simp)).setAt (i := 2) (v := (.slice h0A2 h0n2 h0c2)) (ds := #[(.slice h0A0 h0n0 h0c0), (.slice h0A1 h0n1 h0c1), (.slice h0A2 h0n2 h0c2), .slice none 0 0, .slice none 0 0, .slice none 0 0]) (by simp)).setAt (i := 3) (v := (.slice h0A3 h0n3 h0c3)) (ds := #[(.slice h0A0 h0n0 h0c0), (.slice h0A1 h0n1 h0c1), (.slice h0A2 h0n2 h0c2), (.slice h0A3 h0n3 h0c3), .slice none 0 0, .slice none 0 0]) (by simp)).setAt (i := 4) (v := (.slice h0A4 h0n4 h0c4)) (ds := #[(.slice h0A0 h0n0 h0c0), (.slice h0A1 h0n1 h0c1), (.slice h0A2 h0n2 h0c2), (.slice h0A3 h0n3 h0c3), (.slice h0A4 h0n4 h0c4), .slice none 0 0]) (by simp)).setAt (i := 5) (v := (.slice h0A5 h0n5 h0c5)) (ds := #[(.slice h0A0 h0n0 h0c0), (.slice h0A1 h0n1 h0c1), (.slice h0A2 h0n2 h0c2), (.slice h0A3 h0n3 h0c3), (.slice h0A4 h0n4 h0c4), (.slice h0A5 h0n5 h0c5)]) (by simp)).far (by omega)).far (by omega)))
    clear kh0; have kh0 := kh0_; clear kh0_
    clear hw33 hK
    obtain ⟨ckh0_0, ckh0_1, ckh0_2, ckh0_3, ckh0_4, ckh0_5, fkh0_0, fkh0_1, fkh0_2, fkh0_3, fkh0_4, fkh0_5⟩ := kh0.six
    have l_kh0_0 : gkh0 < w33.heap.size := by omega
    obtain ⟨ckw0_0, ckw0_1, ckw0_2, ckw0_3, ckw0_4, ckw0_5, fkw0_0, fkw0_1, fkw0_2, fkw0_3, fkw0_4, fkw0_5⟩ := kw0.six
    have l_kw0_0 : gkw0 < w33.heap.size := by omega
    go_wp2_with fail
    refine (eqTriple_L rh0.rd rw0.rd rL0_0n rL0_1n rL0_2n rL0_3n rL0_4n rL0_5n).mono ?_
    rintro e w34 ⟨rfl, b34⟩
    clear ckh0_0 ckh0_1 ckh0_2 ckh0_3 ckh0_4 ckh0_5 fkh0_0 fkh0_1 fkh0_2 fkh0_3 fkh0_4 fkh0_5 l_kh0_0 ckw0_0 ckw0_1 ckw0_2 ckw0_3 ckw0_4 ckw0_5 fkw0_0 fkw0_1 fkw0_2 fkw0_3 fkw0_4 fkw0_5 l_kw0_0
    have z34 := b34.size
    try simp only [World.size_alloc, World.size_setCell, size_drew] at z34
    have B34 : Below w.heap.size w w34 := Below.t b34
    have rw0_ := rw0.below b34
    clear rw0; have rw0 := rw0_; clear rw0_
    have rg0_ := rg0.below b34
    clear rg0; have rg0 := rg0_; clear rg0_
    have rh0_ := rh0.below b34
    clear rh0; have rh0 := rh0_; clear rh0_
    have pk_ : Box w34 (w.heap.size) #[.int .i64 kI0, (.slice kA1 kn1 kc1)] 30 := pk.below b34 (by first | omega | (simp [size_drew]; done) | (simp [size_drew]; omega))
    clear pk; have pk := pk_; clear pk_
    have pt_ : Box w34 (w.heap.size + 1) #[.int .i64 tI0, .int .i64 tI1] 51 := pt.below b34 (by first | omega | (simp [size_drew]; done) | (simp [size_drew]; omega))
    clear pt; have pt := pt_; clear pt_
    have kw1_ : Box w34 (gkw1) #[.int .i64 tI0, .int .i64 (mT kI0 kL1 tI0 tI1)] 40 := kw1.below b34 (by first | omega | (simp [size_drew]; done) | (simp [size_drew]; omega))
    clear kw1; have kw1 := kw1_; clear kw1_
    have kw0_ : Box w34 (gkw0) #[(.slice w0A0 w0n0 w0c0), (.slice w0A1 w0n1 w0c1), (.slice w0A2 w0n2 w0c2), (.slice w0A3 w0n3 w0c3), (.slice w0A4 w0n4 w0c4), (.slice w0A5 w0n5 w0c5)] 68 := kw0.below b34 (by first | omega | (simp [size_drew]; done) | (simp [size_drew]; omega))
    clear kw0; have kw0 := kw0_; clear kw0_
    have kg1_ : Box w34 (gkg1) #[.int .i64 tI0, .int .i64 (mT kI0 kL1 tI0 tI1)] 40 := kg1.below b34 (by first | omega | (simp [size_drew]; done) | (simp [size_drew]; omega))
    clear kg1; have kg1 := kg1_; clear kg1_
    have kg0_ : Box w34 (gkg0) #[(.slice g0A0 g0n0 g0c0), (.slice g0A1 g0n1 g0c1), (.slice g0A2 g0n2 g0c2), (.slice g0A3 g0n3 g0c3), (.slice g0A4 g0n4 g0c4), (.slice g0A5 g0n5 g0c5)] 68 := kg0.below b34 (by first | omega | (simp [size_drew]; done) | (simp [size_drew]; omega))
    clear kg0; have kg0 := kg0_; clear kg0_
    have kh1_ : Box w34 (gkh1) #[.int .i64 tI0, .int .i64 (mT kI0 kL1 tI0 tI1)] 40 := kh1.below b34 (by first | omega | (simp [size_drew]; done) | (simp [size_drew]; omega))
    clear kh1; have kh1 := kh1_; clear kh1_
    have kh0_ : Box w34 (gkh0) #[(.slice h0A0 h0n0 h0c0), (.slice h0A1 h0n1 h0c1), (.slice h0A2 h0n2 h0c2), (.slice h0A3 h0n3 h0c3), (.slice h0A4 h0n4 h0c4), (.slice h0A5 h0n5 h0c5)] 68 := kh0.below b34 (by first | omega | (simp [size_drew]; done) | (simp [size_drew]; omega))
    clear kh0; have kh0 := kh0_; clear kh0_
    obtain ⟨ckh1_0, ckh1_1, fkh1_0, fkh1_1⟩ := kh1.two
    have l_kh1_0 : gkh1 < w34.heap.size := by omega
    obtain ⟨ckw1_0, ckw1_1, fkw1_0, fkw1_1⟩ := kw1.two
    have l_kw1_0 : gkw1 < w34.heap.size := by omega
    go_wp2_with fail
    refine (eqTape_L tI0 (mT kI0 kL1 tI0 tI1)).mono ?_
    rintro e w35 ⟨rfl, b35⟩
    clear ckh1_0 ckh1_1 fkh1_0 fkh1_1 l_kh1_0 ckw1_0 ckw1_1 fkw1_0 fkw1_1 l_kw1_0
    have z35 := b35.size
    try simp only [World.size_alloc, World.size_setCell, size_drew] at z35
    have B35 : Below w.heap.size w w35 := Below.t b35
    have rw0_ := rw0.below b35
    clear rw0; have rw0 := rw0_; clear rw0_
    have rg0_ := rg0.below b35
    clear rg0; have rg0 := rg0_; clear rg0_
    have rh0_ := rh0.below b35
    clear rh0; have rh0 := rh0_; clear rh0_
    have pk_ : Box w35 (w.heap.size) #[.int .i64 kI0, (.slice kA1 kn1 kc1)] 30 := pk.below b35 (by first | omega | (simp [size_drew]; done) | (simp [size_drew]; omega))
    clear pk; have pk := pk_; clear pk_
    have pt_ : Box w35 (w.heap.size + 1) #[.int .i64 tI0, .int .i64 tI1] 51 := pt.below b35 (by first | omega | (simp [size_drew]; done) | (simp [size_drew]; omega))
    clear pt; have pt := pt_; clear pt_
    have kw1_ : Box w35 (gkw1) #[.int .i64 tI0, .int .i64 (mT kI0 kL1 tI0 tI1)] 40 := kw1.below b35 (by first | omega | (simp [size_drew]; done) | (simp [size_drew]; omega))
    clear kw1; have kw1 := kw1_; clear kw1_
    have kw0_ : Box w35 (gkw0) #[(.slice w0A0 w0n0 w0c0), (.slice w0A1 w0n1 w0c1), (.slice w0A2 w0n2 w0c2), (.slice w0A3 w0n3 w0c3), (.slice w0A4 w0n4 w0c4), (.slice w0A5 w0n5 w0c5)] 68 := kw0.below b35 (by first | omega | (simp [size_drew]; done) | (simp [size_drew]; omega))
    clear kw0; have kw0 := kw0_; clear kw0_
    have kg1_ : Box w35 (gkg1) #[.int .i64 tI0, .int .i64 (mT kI0 kL1 tI0 tI1)] 40 := kg1.below b35 (by first | omega | (simp [size_drew]; done) | (simp [size_drew]; omega))
    clear kg1; have kg1 := kg1_; clear kg1_
    have kg0_ : Box w35 (gkg0) #[(.slice g0A0 g0n0 g0c0), (.slice g0A1 g0n1 g0c1), (.slice g0A2 g0n2 g0c2), (.slice g0A3 g0n3 g0c3), (.slice g0A4 g0n4 g0c4), (.slice g0A5 g0n5 g0c5)] 68 := kg0.below b35 (by first | omega | (simp [size_drew]; done) | (simp [size_drew]; omega))
    clear kg0; have kg0 := kg0_; clear kg0_
    have kh1_ : Box w35 (gkh1) #[.int .i64 tI0, .int .i64 (mT kI0 kL1 tI0 tI1)] 40 := kh1.below b35 (by first | omega | (simp [size_drew]; done) | (simp [size_drew]; omega))
    clear kh1; have kh1 := kh1_; clear kh1_
    have kh0_ : Box w35 (gkh0) #[(.slice h0A0 h0n0 h0c0), (.slice h0A1 h0n1 h0c1), (.slice h0A2 h0n2 h0c2), (.slice h0A3 h0n3 h0c3), (.slice h0A4 h0n4 h0c4), (.slice h0A5 h0n5 h0c5)] 68 := kh0.below b35 (by first | omega | (simp [size_drew]; done) | (simp [size_drew]; omega))
    clear kh0; have kh0 := kh0_; clear kh0_
    obtain ⟨ckg0_0, ckg0_1, ckg0_2, ckg0_3, ckg0_4, ckg0_5, fkg0_0, fkg0_1, fkg0_2, fkg0_3, fkg0_4, fkg0_5⟩ := kg0.six
    have l_kg0_0 : gkg0 < w35.heap.size := by omega
    go_wp2_with fail
    refine (heldTriple_L (mAS kI0 kL1 tI0 tI1).length (mAM kI0 kL1 tI0 tI1).length (mBS kI0 kL1 tI0 tI1).length (mBM kI0 kL1 tI0 tI1).length (mCS kI0 kL1 tI0 tI1).length (mCM kI0 kL1 tI0 tI1).length (1) _ rg0.rd (by first | omega | (simp [size_drew]; done) | (simp [size_drew]; omega)) (by omega) rL0_0n rL0_1n rL0_2n rL0_3n rL0_4n rL0_5n).mono ?_
    rintro e w36 ⟨rfl, b36⟩
    clear ckg0_0 ckg0_1 ckg0_2 ckg0_3 ckg0_4 ckg0_5 fkg0_0 fkg0_1 fkg0_2 fkg0_3 fkg0_4 fkg0_5 l_kg0_0
    have z36 := b36.size
    try simp only [World.size_alloc, World.size_setCell, size_drew] at z36
    have B36 : Below w.heap.size w w36 := Below.t b36
    have rw0_ := rw0.below b36
    clear rw0; have rw0 := rw0_; clear rw0_
    have rg0_ := rg0.below b36
    clear rg0; have rg0 := rg0_; clear rg0_
    have rh0_ := rh0.below b36
    clear rh0; have rh0 := rh0_; clear rh0_
    have pk_ : Box w36 (w.heap.size) #[.int .i64 kI0, (.slice kA1 kn1 kc1)] 30 := pk.below b36 (by first | omega | (simp [size_drew]; done) | (simp [size_drew]; omega))
    clear pk; have pk := pk_; clear pk_
    have pt_ : Box w36 (w.heap.size + 1) #[.int .i64 tI0, .int .i64 tI1] 51 := pt.below b36 (by first | omega | (simp [size_drew]; done) | (simp [size_drew]; omega))
    clear pt; have pt := pt_; clear pt_
    have kw1_ : Box w36 (gkw1) #[.int .i64 tI0, .int .i64 (mT kI0 kL1 tI0 tI1)] 40 := kw1.below b36 (by first | omega | (simp [size_drew]; done) | (simp [size_drew]; omega))
    clear kw1; have kw1 := kw1_; clear kw1_
    have kw0_ : Box w36 (gkw0) #[(.slice w0A0 w0n0 w0c0), (.slice w0A1 w0n1 w0c1), (.slice w0A2 w0n2 w0c2), (.slice w0A3 w0n3 w0c3), (.slice w0A4 w0n4 w0c4), (.slice w0A5 w0n5 w0c5)] 68 := kw0.below b36 (by first | omega | (simp [size_drew]; done) | (simp [size_drew]; omega))
    clear kw0; have kw0 := kw0_; clear kw0_
    have kg1_ : Box w36 (gkg1) #[.int .i64 tI0, .int .i64 (mT kI0 kL1 tI0 tI1)] 40 := kg1.below b36 (by first | omega | (simp [size_drew]; done) | (simp [size_drew]; omega))
    clear kg1; have kg1 := kg1_; clear kg1_
    have kg0_ : Box w36 (gkg0) #[(.slice g0A0 g0n0 g0c0), (.slice g0A1 g0n1 g0c1), (.slice g0A2 g0n2 g0c2), (.slice g0A3 g0n3 g0c3), (.slice g0A4 g0n4 g0c4), (.slice g0A5 g0n5 g0c5)] 68 := kg0.below b36 (by first | omega | (simp [size_drew]; done) | (simp [size_drew]; omega))
    clear kg0; have kg0 := kg0_; clear kg0_
    have kh1_ : Box w36 (gkh1) #[.int .i64 tI0, .int .i64 (mT kI0 kL1 tI0 tI1)] 40 := kh1.below b36 (by first | omega | (simp [size_drew]; done) | (simp [size_drew]; omega))
    clear kh1; have kh1 := kh1_; clear kh1_
    have kh0_ : Box w36 (gkh0) #[(.slice h0A0 h0n0 h0c0), (.slice h0A1 h0n1 h0c1), (.slice h0A2 h0n2 h0c2), (.slice h0A3 h0n3 h0c3), (.slice h0A4 h0n4 h0c4), (.slice h0A5 h0n5 h0c5)] 68 := kh0.below b36 (by first | omega | (simp [size_drew]; done) | (simp [size_drew]; omega))
    clear kh0; have kh0 := kh0_; clear kh0_
    go_wp2_with fail
    go_ret
    exact ⟨rfl, B36⟩
  · skip
    go_enter Try.func24, Try.ntmps24
    go_wp2_with fail
    refine (szKeys_no kI0 kL1h.b (1048576) _ (by first | rfl | simp) (by omega) (by omega)).mono ?_
    rintro e w1 ⟨rfl, b1⟩
    have z1 := b1.size
    try simp only [World.size_alloc, World.size_setCell, size_drew] at z1
    have B1 : Below w.heap.size w w1 := Below.t b1
    have pk_ : Box w1 (w.heap.size) #[.int .i64 kI0, (.slice kA1 kn1 kc1)] 30 := ((Box.new (g := w.heap.size) _ #[.int .i64 kI0, (.slice kA1 kn1 kc1)] 30 (by simp)).alloc _).below b1 (by first | omega | (simp [size_drew]; done) | (simp [size_drew]; omega))
    have pk := pk_; clear pk_
    have pt_ : Box w1 (w.heap.size + 1) #[.int .i64 tI0, .int .i64 tI1] 51 := (Box.new (g := w.heap.size + 1) _ #[.int .i64 tI0, .int .i64 tI1] 51 (by simp)).below b1 (by first | omega | (simp [size_drew]; done) | (simp [size_drew]; omega))
    have pt := pt_; clear pt_
    go_wp2
    go_ret
    exact ⟨rfl, B1⟩
end Go.Proofs.Ytllnnbmgdbinnaa

/- The walk of the law FnExactGarble. Printed by laws2.py. -/
import Derived.Test.YtodnahpegecpiaaGar
import Derived.Test.YtodnahpegecpiaaHk
import Derived.Test.YtodnahpegecpiaaAuto
namespace Go.Proofs.Ytodnahpegecpiaa
set_option linter.unusedSimpArgs false
set_option linter.unusedVariables false
open Go.RowKit
set_option maxRecDepth 100000 in
set_option maxHeartbeats 2000000 in
theorem walk_FnExactGarble (cL0V : Value) (cL0 : List (Int × Int × Int)) (cL1V : Value) (cL1 : List Int) (tI0 : Int) (tI1 : Int) (w : World) (cL0h : RdG0 w cL0V cL0) (cL1h : Rd0 w cL1V cL1) :
    Calls Try.prog 19 #[.agg #[cL0V, cL1V], .agg #[.int .i64 tI0, .int .i64 tI1]] w fun e w' => e = .returned (.bool true) ∧ Below w.heap.size w w' := by
  obtain ⟨cA0, cn0, cc0, rfl, cL0x, cL0I⟩ := cL0h
  have cL0h : RdG0 w (.slice cA0 cn0 cc0) cL0 := ⟨_, _, _, rfl, cL0x, cL0I⟩
  obtain ⟨cA1, cn1, cc1, rfl, cL1x, cL1I⟩ := cL1h
  have cL1h : Rd0 w (.slice cA1 cn1 cc1) cL1 := ⟨_, _, _, rfl, cL1x, cL1I⟩
  by_cases sz0 : (cL0.length + cL1.length) ≤ 1048576
  · skip
    have cL0n : cL0.length ≤ 1048576 := by omega
    have cL1n : cL1.length ≤ 1048576 := by omega
    have rL0_0n : (garZ cL0 cL1 tI0 tI1).length ≤ 1048576 := Nat.le_trans (garZ_len _ _ _ _) cL0n
    have rL0_1n : (garT cL0 cL1 tI0 tI1).length ≤ 1048576 := Nat.le_trans (garT_len _ _ _ _) (by omega)
    go_enter Try.func19, Try.ntmps19
    go_wp2_with fail
    refine (szCircuit_yes cL0h.b cL1h.b (1048576) _ (by first | rfl | simp) (by omega) (by omega)).mono ?_
    rintro e w1 ⟨rfl, b1⟩
    have z1 := b1.size
    try simp only [World.size_alloc, World.size_setCell, size_drew] at z1
    have B1 : Below w.heap.size w w1 := Below.t b1
    have pc_ : Box w1 (w.heap.size) #[(.slice cA0 cn0 cc0), (.slice cA1 cn1 cc1)] 63 := ((Box.new (g := w.heap.size) _ #[(.slice cA0 cn0 cc0), (.slice cA1 cn1 cc1)] 63 (by simp)).alloc _).below b1 (by first | omega | (simp [size_drew]; done) | (simp [size_drew]; omega))
    have pc := pc_; clear pc_
    have pt_ : Box w1 (w.heap.size + 1) #[.int .i64 tI0, .int .i64 tI1] 69 := (Box.new (g := w.heap.size + 1) _ #[.int .i64 tI0, .int .i64 tI1] 69 (by simp)).below b1 (by first | omega | (simp [size_drew]; done) | (simp [size_drew]; omega))
    have pt := pt_; clear pt_
    obtain ⟨cpc_0, cpc_1, fpc_0, fpc_1⟩ := pc.two
    have l_pc_0 : w.heap.size < w1.heap.size := by omega
    obtain ⟨cpt_0, cpt_1, fpt_0, fpt_1⟩ := pt.two
    have l_pt_0 : w.heap.size + 1 < w1.heap.size := by omega
    go_wp2_with fail
    clear cpc_0 cpc_1 fpc_0 fpc_1 l_pc_0 cpt_0 cpt_1 fpt_0 fpt_1 l_pt_0
    refine wp_region_M [9] (w1.heap.size) 11 (S := fun W => Below w.heap.size w W ∧ Below w1.heap.size w1 W ∧ W.cell? ⟨w.heap.size, 0, none⟩ = some ((.slice cA0 cn0 cc0)) ∧ W.cell? ⟨w.heap.size, 1, none⟩ = some ((.slice cA1 cn1 cc1)) ∧ W.cell? ⟨w.heap.size + 1, 0, none⟩ = some (.int .i64 tI0) ∧ W.cell? ⟨w.heap.size + 1, 1, none⟩ = some (.int .i64 tI1)) (by kernel_rfl) (by rfl) (fun W hW => ⟨Below.trans (b := _) (by repeat (with_reducible (first | assumption | exact Below.refl _ _ | refine Below.alloc ?_ (by first | omega | (simp; done) | (simp; omega)) _ | refine Below.setCell ?_ (by first | omega | (simp; done) | (simp; omega)) _ | refine Below.drew ?_ | refine below_drewN ?_ _))) (Below.mono hW (by first | omega | (simp [size_drew]; done) | (simp [size_drew]; omega))), Below.trans (b := _) (by repeat (with_reducible (first | assumption | exact Below.refl _ _ | refine Below.alloc ?_ (by first | omega | (simp; done) | (simp; omega)) _ | refine Below.setCell ?_ (by first | omega | (simp; done) | (simp; omega)) _ | refine Below.drew ?_ | refine below_drewN ?_ _))) (Below.mono hW (by first | omega | (simp [size_drew]; done) | (simp [size_drew]; omega))), (Box.below pc.drew hW (by first | omega | (simp [size_drew]; done) | (simp [size_drew]; omega))).two.1, (Box.below pc.drew hW (by first | omega | (simp [size_drew]; done) | (simp [size_drew]; omega))).two.2.1, (Box.below pt.drew hW (by first | omega | (simp [size_drew]; done) | (simp [size_drew]; omega))).two.1, (Box.below pt.drew hW (by first | omega | (simp [size_drew]; done) | (simp [size_drew]; omega))).two.2.1⟩) (by first | omega | (simp [size_drew]; done) | (simp [size_drew]; omega)) (fun hS hG => ?_)
    (try dsimp only at hS)
    refine pendM 8 6 #[.int .i64 0, .slice none 0 0, .slice none 0 0] 33 (by simp only [List.getElem?_toArray, List.getElem?_cons_succ, List.getElem?_cons_zero] <;> rfl) (by kernel_rfl) (by exact fun _ _ _ _ h => h) (by intro a W; unfold ptr; go_simp; (first | done | rfl)) hG ?_
    (refine tkM 0 hG hS ?_; (try simp only [Act.put, List.setIfInBounds_toArray, List.set_cons_zero, List.set_cons_succ]))
    (refine tkM 2 hG hS ?_; (try simp only [Act.put, List.setIfInBounds_toArray, List.set_cons_zero, List.set_cons_succ]))
    refine callM hG (i := 1) (by simp only [List.getElem?_toArray, List.getElem?_cons_succ, List.getElem?_cons_zero] <;> rfl) (by kernel_rfl) (by rfl) (by rfl) (by intro W hW; have hSw := hS W hW; (try dsimp only at hSw); go_simp; (first | done | with_reducible rfl | exact ⟨rfl, rfl⟩)) ?_
    intro w2 b2
    have B2 : Below w.heap.size w w2 := (hS w2 b2).1
    have z2 := Below.size b2
    (try simp only [World.size_alloc, World.size_setCell, size_drew] at z2)
    have pc_ : Box w2 (w.heap.size) #[(.slice cA0 cn0 cc0), (.slice cA1 cn1 cc1)] 63 := (Box.b pc.drew b2)
    clear pc; have pc := pc_; clear pc_
    have pt_ : Box w2 (w.heap.size + 1) #[.int .i64 tI0, .int .i64 tI1] 69 := (Box.b pt.drew b2)
    clear pt; have pt := pt_; clear pt_
    clear hS hG
    go_at_call 49
    refine (toCircuit_L (RdL.cons (d := .gates cL0) cL0h.rd.b (RdL.cons (d := .ints cL1) cL1h.rd.b RdL.nil)) cL0n cL1n).mono ?_
    rintro e w3 ⟨scA0, scn0, scc0, scA1, scn1, scc1, rfl, rsc, b3⟩
    refine ⟨_, rfl, b3, fun hG => ?_⟩
    have z3 := Below.size b3
    have B3 : Below w.heap.size w w3 := Below.t b3
    have pc_ : Box w3 (w.heap.size) #[(.slice cA0 cn0 cc0), (.slice cA1 cn1 cc1)] 63 := (Box.b pc b3)
    clear pc; have pc := pc_; clear pc_
    have pt_ : Box w3 (w.heap.size + 1) #[.int .i64 tI0, .int .i64 tI1] 69 := (Box.b pt b3)
    clear pt; have pt := pt_; clear pt_
    (try simp only [Act.put, List.setIfInBounds_toArray, List.set_cons_zero, List.set_cons_succ])
    have hS : ∀ W, Later w3 W → (Below w.heap.size w W ∧ Below w3.heap.size w3 W ∧ W.cell? ⟨w.heap.size, 0, none⟩ = some ((.slice cA0 cn0 cc0)) ∧ W.cell? ⟨w.heap.size, 1, none⟩ = some ((.slice cA1 cn1 cc1)) ∧ W.cell? ⟨w.heap.size + 1, 0, none⟩ = some (.int .i64 tI0) ∧ W.cell? ⟨w.heap.size + 1, 1, none⟩ = some (.int .i64 tI1)) := fun W hW => ⟨Below.trans (b := _) (by repeat (with_reducible (first | assumption | exact Below.refl _ _ | refine Below.alloc ?_ (by first | omega | (simp; done) | (simp; omega)) _ | refine Below.setCell ?_ (by first | omega | (simp; done) | (simp; omega)) _ | refine Below.drew ?_ | refine below_drewN ?_ _))) (Below.mono hW (by first | omega | (simp [size_drew]; done) | (simp [size_drew]; omega))), Below.trans (b := _) (by repeat (with_reducible (first | assumption | exact Below.refl _ _ | refine Below.alloc ?_ (by first | omega | (simp; done) | (simp; omega)) _ | refine Below.setCell ?_ (by first | omega | (simp; done) | (simp; omega)) _ | refine Below.drew ?_ | refine below_drewN ?_ _))) (Below.mono hW (by first | omega | (simp [size_drew]; done) | (simp [size_drew]; omega))), (Box.below pc hW (by first | omega | (simp [size_drew]; done) | (simp [size_drew]; omega))).two.1, (Box.below pc hW (by first | omega | (simp [size_drew]; done) | (simp [size_drew]; omega))).two.2.1, (Box.below pt hW (by first | omega | (simp [size_drew]; done) | (simp [size_drew]; omega))).two.1, (Box.below pt hW (by first | omega | (simp [size_drew]; done) | (simp [size_drew]; omega))).two.2.1⟩
    refine callM hG (i := 3) (by simp only [List.getElem?_toArray, List.getElem?_cons_succ, List.getElem?_cons_zero] <;> rfl) (by kernel_rfl) (by rfl) (by rfl) (by intro W hW; have hSw := hS W hW; (try dsimp only at hSw); go_simp; (first | done | with_reducible rfl | exact ⟨rfl, rfl⟩)) ?_
    intro w4 b4
    have B4 : Below w.heap.size w w4 := (hS w4 b4).1
    have z4 := Below.size b4
    (try simp only [World.size_alloc, World.size_setCell, size_drew] at z4)
    have rsc_ := (rsc.below b4)
    clear rsc; have rsc := rsc_; clear rsc_
    have pc_ : Box w4 (w.heap.size) #[(.slice cA0 cn0 cc0), (.slice cA1 cn1 cc1)] 63 := (Box.b pc b4)
    clear pc; have pc := pc_; clear pc_
    have pt_ : Box w4 (w.heap.size + 1) #[.int .i64 tI0, .int .i64 tI1] 69 := (Box.b pt b4)
    clear pt; have pt := pt_; clear pt_
    clear hS hG
    go_at_call 54
    refine (toTape_L tI0 tI1).mono ?_
    rintro e w5 ⟨rfl, b5⟩
    refine ⟨_, rfl, b5, fun hG => ?_⟩
    have z5 := Below.size b5
    have B5 : Below w.heap.size w w5 := Below.t b5
    have rsc_ := (rsc.below b5)
    clear rsc; have rsc := rsc_; clear rsc_
    have pc_ : Box w5 (w.heap.size) #[(.slice cA0 cn0 cc0), (.slice cA1 cn1 cc1)] 63 := (Box.b pc b5)
    clear pc; have pc := pc_; clear pc_
    have pt_ : Box w5 (w.heap.size + 1) #[.int .i64 tI0, .int .i64 tI1] 69 := (Box.b pt b5)
    clear pt; have pt := pt_; clear pt_
    (try simp only [Act.put, List.setIfInBounds_toArray, List.set_cons_zero, List.set_cons_succ])
    have hS : ∀ W, Later w5 W → (Below w.heap.size w W ∧ Below w5.heap.size w5 W ∧ W.cell? ⟨w.heap.size, 0, none⟩ = some ((.slice cA0 cn0 cc0)) ∧ W.cell? ⟨w.heap.size, 1, none⟩ = some ((.slice cA1 cn1 cc1)) ∧ W.cell? ⟨w.heap.size + 1, 0, none⟩ = some (.int .i64 tI0) ∧ W.cell? ⟨w.heap.size + 1, 1, none⟩ = some (.int .i64 tI1)) := fun W hW => ⟨Below.trans (b := _) (by repeat (with_reducible (first | assumption | exact Below.refl _ _ | refine Below.alloc ?_ (by first | omega | (simp; done) | (simp; omega)) _ | refine Below.setCell ?_ (by first | omega | (simp; done) | (simp; omega)) _ | refine Below.drew ?_ | refine below_drewN ?_ _))) (Below.mono hW (by first | omega | (simp [size_drew]; done) | (simp [size_drew]; omega))), Below.trans (b := _) (by repeat (with_reducible (first | assumption | exact Below.refl _ _ | refine Below.alloc ?_ (by first | omega | (simp; done) | (simp; omega)) _ | refine Below.setCell ?_ (by first | omega | (simp; done) | (simp; omega)) _ | refine Below.drew ?_ | refine below_drewN ?_ _))) (Below.mono hW (by first | omega | (simp [size_drew]; done) | (simp [size_drew]; omega))), (Box.below pc hW (by first | omega | (simp [size_drew]; done) | (simp [size_drew]; omega))).two.1, (Box.below pc hW (by first | omega | (simp [size_drew]; done) | (simp [size_drew]; omega))).two.2.1, (Box.below pt hW (by first | omega | (simp [size_drew]; done) | (simp [size_drew]; omega))).two.1, (Box.below pt hW (by first | omega | (simp [size_drew]; done) | (simp [size_drew]; omega))).two.2.1⟩
    refine callM hG (i := 4) (by simp only [List.getElem?_toArray, List.getElem?_cons_succ, List.getElem?_cons_zero] <;> rfl) (by kernel_rfl) (by rfl) (by rfl) (by intro W hW; have hSw := hS W hW; (try dsimp only at hSw); go_simp; (first | done | with_reducible rfl | exact ⟨rfl, rfl⟩)) ?_
    intro w6 b6
    have B6 : Below w.heap.size w w6 := (hS w6 b6).1
    have z6 := Below.size b6
    (try simp only [World.size_alloc, World.size_setCell, size_drew] at z6)
    have rsc_ := (rsc.below b6)
    clear rsc; have rsc := rsc_; clear rsc_
    have pc_ : Box w6 (w.heap.size) #[(.slice cA0 cn0 cc0), (.slice cA1 cn1 cc1)] 63 := (Box.b pc b6)
    clear pc; have pc := pc_; clear pc_
    have pt_ : Box w6 (w.heap.size + 1) #[.int .i64 tI0, .int .i64 tI1] 69 := (Box.b pt b6)
    clear pt; have pt := pt_; clear pt_
    clear hS hG
    go_at_call 56
    refine (sGarble_L rsc.rd cL0n cL1n tI0 tI1).mono ?_
    rintro e w7 ⟨w0A0, w0n0, w0c0, w0A1, w0n1, w0c1, rfl, rw0, b7⟩
    refine ⟨_, rfl, b7, fun hG => ?_⟩
    have z7 := Below.size b7
    have B7 : Below w.heap.size w w7 := Below.t b7
    have rsc_ := (rsc.below b7)
    clear rsc; have rsc := rsc_; clear rsc_
    have pc_ : Box w7 (w.heap.size) #[(.slice cA0 cn0 cc0), (.slice cA1 cn1 cc1)] 63 := (Box.b pc b7)
    clear pc; have pc := pc_; clear pc_
    have pt_ : Box w7 (w.heap.size + 1) #[.int .i64 tI0, .int .i64 tI1] 69 := (Box.b pt b7)
    clear pt; have pt := pt_; clear pt_
    (try simp only [Act.put, List.setIfInBounds_toArray, List.set_cons_zero, List.set_cons_succ])
    have hS : ∀ W, Later w7 W → (Below w.heap.size w W ∧ Below w7.heap.size w7 W ∧ W.cell? ⟨w.heap.size, 0, none⟩ = some ((.slice cA0 cn0 cc0)) ∧ W.cell? ⟨w.heap.size, 1, none⟩ = some ((.slice cA1 cn1 cc1)) ∧ W.cell? ⟨w.heap.size + 1, 0, none⟩ = some (.int .i64 tI0) ∧ W.cell? ⟨w.heap.size + 1, 1, none⟩ = some (.int .i64 tI1)) := fun W hW => ⟨Below.trans (b := _) (by repeat (with_reducible (first | assumption | exact Below.refl _ _ | refine Below.alloc ?_ (by first | omega | (simp; done) | (simp; omega)) _ | refine Below.setCell ?_ (by first | omega | (simp; done) | (simp; omega)) _ | refine Below.drew ?_ | refine below_drewN ?_ _))) (Below.mono hW (by first | omega | (simp [size_drew]; done) | (simp [size_drew]; omega))), Below.trans (b := _) (by repeat (with_reducible (first | assumption | exact Below.refl _ _ | refine Below.alloc ?_ (by first | omega | (simp; done) | (simp; omega)) _ | refine Below.setCell ?_ (by first | omega | (simp; done) | (simp; omega)) _ | refine Below.drew ?_ | refine below_drewN ?_ _))) (Below.mono hW (by first | omega | (simp [size_drew]; done) | (simp [size_drew]; omega))), (Box.below pc hW (by first | omega | (simp [size_drew]; done) | (simp [size_drew]; omega))).two.1, (Box.below pc hW (by first | omega | (simp [size_drew]; done) | (simp [size_drew]; omega))).two.2.1, (Box.below pt hW (by first | omega | (simp [size_drew]; done) | (simp [size_drew]; omega))).two.1, (Box.below pt hW (by first | omega | (simp [size_drew]; done) | (simp [size_drew]; omega))).two.2.1⟩
    (refine tkM 5 hG hS ?_; (try simp only [Act.put, List.setIfInBounds_toArray, List.set_cons_zero, List.set_cons_succ]))
    (refine tkM 6 hG hS ?_; (try simp only [Act.put, List.setIfInBounds_toArray, List.set_cons_zero, List.set_cons_succ]))
    (refine tkY 7 hG ?_; (try simp only [Act.put, List.setIfInBounds_toArray, List.set_cons_zero, List.set_cons_succ]))
    refine storeM (z := 9) (by simp only [List.getElem?_toArray, List.getElem?_cons_succ, List.getElem?_cons_zero] <;> rfl) (by kernel_rfl) (by rfl) (by rfl) ?_
    intro w8 b8
    have B8 : Below w.heap.size w w8 := (hS w8 b8).1
    have z8 := Below.size b8
    (try simp only [World.size_alloc, World.size_setCell, size_drew] at z8)
    have rsc_ := (rsc.below b8)
    clear rsc; have rsc := rsc_; clear rsc_
    have rw0_ := (rw0.below b8)
    clear rw0; have rw0 := rw0_; clear rw0_
    have pc_ : Box w8 (w.heap.size) #[(.slice cA0 cn0 cc0), (.slice cA1 cn1 cc1)] 63 := (Box.b pc b8)
    clear pc; have pc := pc_; clear pc_
    have pt_ : Box w8 (w.heap.size + 1) #[.int .i64 tI0, .int .i64 tI1] 69 := (Box.b pt b8)
    clear pt; have pt := pt_; clear pt_
    clear hS hG
    refine Zc.cons fun gkw0 kw0 nkw0 => ?_
    have nkw0_0 := nkw0 (w6.heap.size, w7.heap.size) (by simp)
    dsimp only at nkw0_0 kw0
    have nkw0_1 := nkw0 (w4.heap.size, w5.heap.size) (by simp)
    dsimp only at nkw0_1 kw0
    have nkw0_2 := nkw0 (w2.heap.size, w3.heap.size) (by simp)
    dsimp only at nkw0_2 kw0
    have nkw0_3 := nkw0 (0, w1.heap.size) (by simp)
    dsimp only at nkw0_3 kw0
    clear nkw0
    refine Zc.nil ?_
    (try unfold ptr)
    (try simp only [Act.put, List.setIfInBounds_toArray, List.set_cons_zero, List.set_cons_succ])
    have lkw0 := kw0.lt
    obtain ⟨ckw0_0, ckw0_1, ckw0_2, fkw0_0, fkw0_1, fkw0_2⟩ := kw0.three
    refine ⟨_, by go_simp; (first | done | with_reducible rfl | exact ⟨rfl, rfl⟩), ?_⟩
    (try simp only [Act.put, List.setIfInBounds_toArray, List.set_cons_zero, List.set_cons_succ])
    refine onlyAny (i := 10) (by simp only [List.getElem?_toArray, List.getElem?_cons_succ, List.getElem?_cons_zero] <;> rfl) (by kernel_rfl) (by rfl) (by go_simp; (first | done | with_reducible rfl | exact ⟨rfl, rfl⟩)) ?_
    (try simp only [Act.put, List.setIfInBounds_toArray, List.set_cons_zero, List.set_cons_succ])
    refine wpAny_done (by kernel_rfl) ?_ _
    clear ckw0_0 ckw0_1 ckw0_2 fkw0_0 fkw0_1 fkw0_2
    generalize hw9 : World.setCell _ _ _ = w9
    have z9 : w8.heap.size ≤ w9.heap.size := by rw [← hw9]; simp
    have B9 : Below w.heap.size w w9 := by rw [← hw9]; repeat (with_reducible (first | assumption | exact Below.refl _ _ | refine Below.alloc ?_ (by first | omega | (simp; done) | (simp; omega)) _ | refine Below.setCell ?_ (by first | omega | (simp; done) | (simp; omega)) _ | refine Below.drew ?_ | refine below_drewN ?_ _))
    have hK : ∀ k, k ≠ gkw0 → k < w8.heap.size → w9.heap[k]? = w8.heap[k]? := by
      intro k h0 _; rw [← hw9]
      repeat (first | rfl | refine (Below.heap_setCell _ _ _ _ (by first | exact h0)).trans ?_)
    have rsc_ := rsc.keepBlock z9 (fun k h1 h2 => hK k (by omega) (by have := rsc.2.1; omega))
    clear rsc; have rsc := rsc_; clear rsc_
    have rw0_ := rw0.keepBlock z9 (fun k h1 h2 => hK k (by omega) (by have := rw0.2.1; omega))
    clear rw0; have rw0 := rw0_; clear rw0_
    have pc_ : Box w9 (w.heap.size) #[(.slice cA0 cn0 cc0), (.slice cA1 cn1 cc1)] 63 := (by rw [← hw9]; exact (((pc.far (by omega)).far (by omega)).far (by omega)))
    clear pc; have pc := pc_; clear pc_
    have pt_ : Box w9 (w.heap.size + 1) #[.int .i64 tI0, .int .i64 tI1] 69 := (by rw [← hw9]; exact (((pt.far (by omega)).far (by omega)).far (by omega)))
    clear pt; have pt := pt_; clear pt_
    have kw0_ : Box w9 (gkw0) #[.int .i64 (garD cL0 cL1 tI0 tI1), (.slice w0A0 w0n0 w0c0), (.slice w0A1 w0n1 w0c1)] 33 := (by rw [← hw9]; exact (((kw0.setAt (i := 0) (v := .int .i64 (garD cL0 cL1 tI0 tI1)) (ds := #[.int .i64 (garD cL0 cL1 tI0 tI1), .slice none 0 0, .slice none 0 0]) (by simp)).setAt (i := 1) (v := (.slice w0A0 w0n0 w0c0)) (ds := #[.int .i64 (garD cL0 cL1 tI0 tI1), (.slice w0A0 w0n0 w0c0), .slice none 0 0]) (by simp)).setAt (i := 2) (v := (.slice w0A1 w0n1 w0c1)) (ds := #[.int .i64 (garD cL0 cL1 tI0 tI1), (.slice w0A0 w0n0 w0c0), (.slice w0A1 w0n1 w0c1)]) (by simp)))
    clear kw0; have kw0 := kw0_; clear kw0_
    clear hw9 hK
    obtain ⟨cpc_0, cpc_1, fpc_0, fpc_1⟩ := pc.two
    have l_pc_0 : w.heap.size < w9.heap.size := by omega
    go_wp2_with fail
    refine (toCircuit_L (RdL.cons (d := .gates cL0) cL0h.rd.b (RdL.cons (d := .ints cL1) cL1h.rd.b RdL.nil)) cL0n cL1n).mono ?_
    rintro e w10 ⟨xcA0, xcn0, xcc0, xcA1, xcn1, xcc1, rfl, rxc, b10⟩
    clear cpc_0 cpc_1 fpc_0 fpc_1 l_pc_0
    have z10 := b10.size
    try simp only [World.size_alloc, World.size_setCell, size_drew] at z10
    have B10 : Below w.heap.size w w10 := Below.t b10
    have rw0_ := rw0.below b10
    clear rw0; have rw0 := rw0_; clear rw0_
    have pc_ : Box w10 (w.heap.size) #[(.slice cA0 cn0 cc0), (.slice cA1 cn1 cc1)] 63 := pc.below b10 (by first | omega | (simp [size_drew]; done) | (simp [size_drew]; omega))
    clear pc; have pc := pc_; clear pc_
    have pt_ : Box w10 (w.heap.size + 1) #[.int .i64 tI0, .int .i64 tI1] 69 := pt.below b10 (by first | omega | (simp [size_drew]; done) | (simp [size_drew]; omega))
    clear pt; have pt := pt_; clear pt_
    have kw0_ : Box w10 (gkw0) #[.int .i64 (garD cL0 cL1 tI0 tI1), (.slice w0A0 w0n0 w0c0), (.slice w0A1 w0n1 w0c1)] 33 := kw0.below b10 (by first | omega | (simp [size_drew]; done) | (simp [size_drew]; omega))
    clear kw0; have kw0 := kw0_; clear kw0_
    try simp only [World.size_alloc, World.size_setCell, size_drew] at rxc
    obtain ⟨cpt_0, cpt_1, fpt_0, fpt_1⟩ := pt.two
    have l_pt_0 : w.heap.size + 1 < w10.heap.size := by omega
    have l_pt_1 : w.heap.size + 1 < w10.heap.size + 1 := by omega
    go_wp2_with fail
    clear cpt_0 cpt_1 fpt_0 fpt_1 l_pt_0 l_pt_1
    refine wp_region_M [8] (w10.heap.size + 1) 10 (S := fun W => Below w.heap.size w W ∧ Below w10.heap.size w10 W ∧ W.cell? ⟨w10.heap.size, 0, none⟩ = some ((.slice xcA0 xcn0 xcc0)) ∧ W.cell? ⟨w10.heap.size, 1, none⟩ = some ((.slice xcA1 xcn1 xcc1)) ∧ W.cell? ⟨w.heap.size + 1, 0, none⟩ = some (.int .i64 tI0) ∧ W.cell? ⟨w.heap.size + 1, 1, none⟩ = some (.int .i64 tI1)) (by kernel_rfl) (by rfl) (fun W hW => ⟨Below.trans (b := _) (by repeat (with_reducible (first | assumption | exact Below.refl _ _ | refine Below.alloc ?_ (by first | omega | (simp; done) | (simp; omega)) _ | refine Below.setCell ?_ (by first | omega | (simp; done) | (simp; omega)) _ | refine Below.drew ?_ | refine below_drewN ?_ _))) (Below.mono hW (by first | omega | (simp [size_drew]; done) | (simp [size_drew]; omega))), Below.trans (b := _) (by repeat (with_reducible (first | assumption | exact Below.refl _ _ | refine Below.alloc ?_ (by first | omega | (simp; done) | (simp; omega)) _ | refine Below.setCell ?_ (by first | omega | (simp; done) | (simp; omega)) _ | refine Below.drew ?_ | refine below_drewN ?_ _))) (Below.mono hW (by first | omega | (simp [size_drew]; done) | (simp [size_drew]; omega))), (Box.below (Box.new (g := w10.heap.size) _ #[(.slice xcA0 xcn0 xcc0), (.slice xcA1 xcn1 xcc1)] 27 (by simp)).drew hW (by first | omega | (simp [size_drew]; done) | (simp [size_drew]; omega))).two.1, (Box.below (Box.new (g := w10.heap.size) _ #[(.slice xcA0 xcn0 xcc0), (.slice xcA1 xcn1 xcc1)] 27 (by simp)).drew hW (by first | omega | (simp [size_drew]; done) | (simp [size_drew]; omega))).two.2.1, (Box.below (pt.alloc _).drew hW (by first | omega | (simp [size_drew]; done) | (simp [size_drew]; omega))).two.1, (Box.below (pt.alloc _).drew hW (by first | omega | (simp [size_drew]; done) | (simp [size_drew]; omega))).two.2.1⟩) (by first | omega | (simp [size_drew]; done) | (simp [size_drew]; omega)) (fun hS hG => ?_)
    (try dsimp only at hS)
    refine pendM 7 9 #[.int .i64 0, .slice none 0 0, .slice none 0 0] 33 (by simp only [List.getElem?_toArray, List.getElem?_cons_succ, List.getElem?_cons_zero] <;> rfl) (by kernel_rfl) (by exact fun _ _ _ _ h => h) (by intro a W; unfold ptr; go_simp; (first | done | rfl)) hG ?_
    (refine tkM 0 hG hS ?_; (try simp only [Act.put, List.setIfInBounds_toArray, List.set_cons_zero, List.set_cons_succ]))
    (refine tkM 1 hG hS ?_; (try simp only [Act.put, List.setIfInBounds_toArray, List.set_cons_zero, List.set_cons_succ]))
    refine callM hG (i := 2) (by simp only [List.getElem?_toArray, List.getElem?_cons_succ, List.getElem?_cons_zero] <;> rfl) (by kernel_rfl) (by rfl) (by rfl) (by intro W hW; have hSw := hS W hW; (try dsimp only at hSw); go_simp; (first | done | with_reducible rfl | exact ⟨rfl, rfl⟩)) ?_
    intro w11 b11
    have B11 : Below w.heap.size w w11 := (hS w11 b11).1
    have z11 := Below.size b11
    (try simp only [World.size_alloc, World.size_setCell, size_drew] at z11)
    have rw0_ := ((rw0.alloc _).drew.below b11)
    clear rw0; have rw0 := rw0_; clear rw0_
    have rxc_ := ((rxc.alloc _).drew.below b11)
    clear rxc; have rxc := rxc_; clear rxc_
    have pc_ : Box w11 (w.heap.size) #[(.slice cA0 cn0 cc0), (.slice cA1 cn1 cc1)] 63 := (Box.b (pc.alloc _).drew b11)
    clear pc; have pc := pc_; clear pc_
    have pt_ : Box w11 (w.heap.size + 1) #[.int .i64 tI0, .int .i64 tI1] 69 := (Box.b (pt.alloc _).drew b11)
    clear pt; have pt := pt_; clear pt_
    have kw0_ : Box w11 (gkw0) #[.int .i64 (garD cL0 cL1 tI0 tI1), (.slice w0A0 w0n0 w0c0), (.slice w0A1 w0n1 w0c1)] 33 := (Box.b (kw0.alloc _).drew b11)
    clear kw0; have kw0 := kw0_; clear kw0_
    have xc_ : Box w11 (w10.heap.size) #[(.slice xcA0 xcn0 xcc0), (.slice xcA1 xcn1 xcc1)] 27 := (Box.b (Box.new (g := w10.heap.size) _ #[(.slice xcA0 xcn0 xcc0), (.slice xcA1 xcn1 xcc1)] 27 (by simp)).drew b11)
    have xc := xc_; clear xc_
    clear hS hG
    go_at_call 54
    refine (toTape_L tI0 tI1).mono ?_
    rintro e w12 ⟨rfl, b12⟩
    refine ⟨_, rfl, b12, fun hG => ?_⟩
    have z12 := Below.size b12
    have B12 : Below w.heap.size w w12 := Below.t b12
    have rw0_ := (rw0.below b12)
    clear rw0; have rw0 := rw0_; clear rw0_
    have rxc_ := (rxc.below b12)
    clear rxc; have rxc := rxc_; clear rxc_
    have pc_ : Box w12 (w.heap.size) #[(.slice cA0 cn0 cc0), (.slice cA1 cn1 cc1)] 63 := (Box.b pc b12)
    clear pc; have pc := pc_; clear pc_
    have pt_ : Box w12 (w.heap.size + 1) #[.int .i64 tI0, .int .i64 tI1] 69 := (Box.b pt b12)
    clear pt; have pt := pt_; clear pt_
    have kw0_ : Box w12 (gkw0) #[.int .i64 (garD cL0 cL1 tI0 tI1), (.slice w0A0 w0n0 w0c0), (.slice w0A1 w0n1 w0c1)] 33 := (Box.b kw0 b12)
    clear kw0; have kw0 := kw0_; clear kw0_
    have xc_ : Box w12 (w10.heap.size) #[(.slice xcA0 xcn0 xcc0), (.slice xcA1 xcn1 xcc1)] 27 := (Box.b xc b12)
    clear xc; have xc := xc_; clear xc_
    (try simp only [Act.put, List.setIfInBounds_toArray, List.set_cons_zero, List.set_cons_succ])
    have hS : ∀ W, Later w12 W → (Below w.heap.size w W ∧ Below w12.heap.size w12 W ∧ W.cell? ⟨w10.heap.size, 0, none⟩ = some ((.slice xcA0 xcn0 xcc0)) ∧ W.cell? ⟨w10.heap.size, 1, none⟩ = some ((.slice xcA1 xcn1 xcc1)) ∧ W.cell? ⟨w.heap.size + 1, 0, none⟩ = some (.int .i64 tI0) ∧ W.cell? ⟨w.heap.size + 1, 1, none⟩ = some (.int .i64 tI1)) := fun W hW => ⟨Below.trans (b := _) (by repeat (with_reducible (first | assumption | exact Below.refl _ _ | refine Below.alloc ?_ (by first | omega | (simp; done) | (simp; omega)) _ | refine Below.setCell ?_ (by first | omega | (simp; done) | (simp; omega)) _ | refine Below.drew ?_ | refine below_drewN ?_ _))) (Below.mono hW (by first | omega | (simp [size_drew]; done) | (simp [size_drew]; omega))), Below.trans (b := _) (by repeat (with_reducible (first | assumption | exact Below.refl _ _ | refine Below.alloc ?_ (by first | omega | (simp; done) | (simp; omega)) _ | refine Below.setCell ?_ (by first | omega | (simp; done) | (simp; omega)) _ | refine Below.drew ?_ | refine below_drewN ?_ _))) (Below.mono hW (by first | omega | (simp [size_drew]; done) | (simp [size_drew]; omega))), (Box.below xc hW (by first | omega | (simp [size_drew]; done) | (simp [size_drew]; omega))).two.1, (Box.below xc hW (by first | omega | (simp [size_drew]; done) | (simp [size_drew]; omega))).two.2.1, (Box.below pt hW (by first | omega | (simp [size_drew]; done) | (simp [size_drew]; omega))).two.1, (Box.below pt hW (by first | omega | (simp [size_drew]; done) | (simp [size_drew]; omega))).two.2.1⟩
    refine callM hG (i := 3) (by simp only [List.getElem?_toArray, List.getElem?_cons_succ, List.getElem?_cons_zero] <;> rfl) (by kernel_rfl) (by rfl) (by rfl) (by intro W hW; have hSw := hS W hW; (try dsimp only at hSw); go_simp; (first | done | with_reducible rfl | exact ⟨rfl, rfl⟩)) ?_
    intro w13 b13
    have B13 : Below w.heap.size w w13 := (hS w13 b13).1
    have z13 := Below.size b13
    (try simp only [World.size_alloc, World.size_setCell, size_drew] at z13)
    have rw0_ := (rw0.below b13)
    clear rw0; have rw0 := rw0_; clear rw0_
    have rxc_ := (rxc.below b13)
    clear rxc; have rxc := rxc_; clear rxc_
    have pc_ : Box w13 (w.heap.size) #[(.slice cA0 cn0 cc0), (.slice cA1 cn1 cc1)] 63 := (Box.b pc b13)
    clear pc; have pc := pc_; clear pc_
    have pt_ : Box w13 (w.heap.size + 1) #[.int .i64 tI0, .int .i64 tI1] 69 := (Box.b pt b13)
    clear pt; have pt := pt_; clear pt_
    have kw0_ : Box w13 (gkw0) #[.int .i64 (garD cL0 cL1 tI0 tI1), (.slice w0A0 w0n0 w0c0), (.slice w0A1 w0n1 w0c1)] 33 := (Box.b kw0 b13)
    clear kw0; have kw0 := kw0_; clear kw0_
    have xc_ : Box w13 (w10.heap.size) #[(.slice xcA0 xcn0 xcc0), (.slice xcA1 xcn1 xcc1)] 27 := (Box.b xc b13)
    clear xc; have xc := xc_; clear xc_
    clear hS hG
    go_at_call 24
    refine (iGarble_L rxc.rd cL0n cL1n tI0 tI1).mono ?_
    rintro e w14 ⟨g0A0, g0n0, g0c0, g0A1, g0n1, g0c1, rfl, rg0, b14⟩
    refine ⟨_, rfl, b14, fun hG => ?_⟩
    have z14 := Below.size b14
    have B14 : Below w.heap.size w w14 := Below.t b14
    have rw0_ := (rw0.below b14)
    clear rw0; have rw0 := rw0_; clear rw0_
    have rxc_ := (rxc.below b14)
    clear rxc; have rxc := rxc_; clear rxc_
    have pc_ : Box w14 (w.heap.size) #[(.slice cA0 cn0 cc0), (.slice cA1 cn1 cc1)] 63 := (Box.b pc b14)
    clear pc; have pc := pc_; clear pc_
    have pt_ : Box w14 (w.heap.size + 1) #[.int .i64 tI0, .int .i64 tI1] 69 := (Box.b pt b14)
    clear pt; have pt := pt_; clear pt_
    have kw0_ : Box w14 (gkw0) #[.int .i64 (garD cL0 cL1 tI0 tI1), (.slice w0A0 w0n0 w0c0), (.slice w0A1 w0n1 w0c1)] 33 := (Box.b kw0 b14)
    clear kw0; have kw0 := kw0_; clear kw0_
    have xc_ : Box w14 (w10.heap.size) #[(.slice xcA0 xcn0 xcc0), (.slice xcA1 xcn1 xcc1)] 27 := (Box.b xc b14)
    clear xc; have xc := xc_; clear xc_
    (try simp only [Act.put, List.setIfInBounds_toArray, List.set_cons_zero, List.set_cons_succ])
    have hS : ∀ W, Later w14 W → (Below w.heap.size w W ∧ Below w14.heap.size w14 W ∧ W.cell? ⟨w10.heap.size, 0, none⟩ = some ((.slice xcA0 xcn0 xcc0)) ∧ W.cell? ⟨w10.heap.size, 1, none⟩ = some ((.slice xcA1 xcn1 xcc1)) ∧ W.cell? ⟨w.heap.size + 1, 0, none⟩ = some (.int .i64 tI0) ∧ W.cell? ⟨w.heap.size + 1, 1, none⟩ = some (.int .i64 tI1)) := fun W hW => ⟨Below.trans (b := _) (by repeat (with_reducible (first | assumption | exact Below.refl _ _ | refine Below.alloc ?_ (by first | omega | (simp; done) | (simp; omega)) _ | refine Below.setCell ?_ (by first | omega | (simp; done) | (simp; omega)) _ | refine Below.drew ?_ | refine below_drewN ?_ _))) (Below.mono hW (by first | omega | (simp [size_drew]; done) | (simp [size_drew]; omega))), Below.trans (b := _) (by repeat (with_reducible (first | assumption | exact Below.refl _ _ | refine Below.alloc ?_ (by first | omega | (simp; done) | (simp; omega)) _ | refine Below.setCell ?_ (by first | omega | (simp; done) | (simp; omega)) _ | refine Below.drew ?_ | refine below_drewN ?_ _))) (Below.mono hW (by first | omega | (simp [size_drew]; done) | (simp [size_drew]; omega))), (Box.below xc hW (by first | omega | (simp [size_drew]; done) | (simp [size_drew]; omega))).two.1, (Box.below xc hW (by first | omega | (simp [size_drew]; done) | (simp [size_drew]; omega))).two.2.1, (Box.below pt hW (by first | omega | (simp [size_drew]; done) | (simp [size_drew]; omega))).two.1, (Box.below pt hW (by first | omega | (simp [size_drew]; done) | (simp [size_drew]; omega))).two.2.1⟩
    (refine tkM 4 hG hS ?_; (try simp only [Act.put, List.setIfInBounds_toArray, List.set_cons_zero, List.set_cons_succ]))
    (refine tkM 5 hG hS ?_; (try simp only [Act.put, List.setIfInBounds_toArray, List.set_cons_zero, List.set_cons_succ]))
    (refine tkY 6 hG ?_; (try simp only [Act.put, List.setIfInBounds_toArray, List.set_cons_zero, List.set_cons_succ]))
    refine storeM (z := 8) (by simp only [List.getElem?_toArray, List.getElem?_cons_succ, List.getElem?_cons_zero] <;> rfl) (by kernel_rfl) (by rfl) (by rfl) ?_
    intro w15 b15
    have B15 : Below w.heap.size w w15 := (hS w15 b15).1
    have z15 := Below.size b15
    (try simp only [World.size_alloc, World.size_setCell, size_drew] at z15)
    have rw0_ := (rw0.below b15)
    clear rw0; have rw0 := rw0_; clear rw0_
    have rxc_ := (rxc.below b15)
    clear rxc; have rxc := rxc_; clear rxc_
    have rg0_ := (rg0.below b15)
    clear rg0; have rg0 := rg0_; clear rg0_
    have pc_ : Box w15 (w.heap.size) #[(.slice cA0 cn0 cc0), (.slice cA1 cn1 cc1)] 63 := (Box.b pc b15)
    clear pc; have pc := pc_; clear pc_
    have pt_ : Box w15 (w.heap.size + 1) #[.int .i64 tI0, .int .i64 tI1] 69 := (Box.b pt b15)
    clear pt; have pt := pt_; clear pt_
    have kw0_ : Box w15 (gkw0) #[.int .i64 (garD cL0 cL1 tI0 tI1), (.slice w0A0 w0n0 w0c0), (.slice w0A1 w0n1 w0c1)] 33 := (Box.b kw0 b15)
    clear kw0; have kw0 := kw0_; clear kw0_
    have xc_ : Box w15 (w10.heap.size) #[(.slice xcA0 xcn0 xcc0), (.slice xcA1 xcn1 xcc1)] 27 := (Box.b xc b15)
    clear xc; have xc := xc_; clear xc_
    clear hS hG
    refine Zc.cons fun gkg0 kg0 nkg0 => ?_
    have nkg0_0 := nkg0 (w13.heap.size, w14.heap.size) (by simp)
    dsimp only at nkg0_0 kg0
    have nkg0_1 := nkg0 (w11.heap.size, w12.heap.size) (by simp)
    dsimp only at nkg0_1 kg0
    have nkg0_2 := nkg0 (0, w10.heap.size + 1) (by simp)
    dsimp only at nkg0_2 kg0
    clear nkg0
    refine Zc.nil ?_
    (try unfold ptr)
    (try simp only [Act.put, List.setIfInBounds_toArray, List.set_cons_zero, List.set_cons_succ])
    have lkg0 := kg0.lt
    obtain ⟨ckg0_0, ckg0_1, ckg0_2, fkg0_0, fkg0_1, fkg0_2⟩ := kg0.three
    refine ⟨_, by go_simp; (first | done | with_reducible rfl | exact ⟨rfl, rfl⟩), ?_⟩
    (try simp only [Act.put, List.setIfInBounds_toArray, List.set_cons_zero, List.set_cons_succ])
    refine onlyAny (i := 9) (by simp only [List.getElem?_toArray, List.getElem?_cons_succ, List.getElem?_cons_zero] <;> rfl) (by kernel_rfl) (by rfl) (by go_simp; (first | done | with_reducible rfl | exact ⟨rfl, rfl⟩)) ?_
    (try simp only [Act.put, List.setIfInBounds_toArray, List.set_cons_zero, List.set_cons_succ])
    refine wpAny_done (by kernel_rfl) ?_ _
    clear ckg0_0 ckg0_1 ckg0_2 fkg0_0 fkg0_1 fkg0_2
    generalize hw16 : World.setCell _ _ _ = w16
    have z16 : w15.heap.size ≤ w16.heap.size := by rw [← hw16]; simp
    have B16 : Below w.heap.size w w16 := by rw [← hw16]; repeat (with_reducible (first | assumption | exact Below.refl _ _ | refine Below.alloc ?_ (by first | omega | (simp; done) | (simp; omega)) _ | refine Below.setCell ?_ (by first | omega | (simp; done) | (simp; omega)) _ | refine Below.drew ?_ | refine below_drewN ?_ _))
    have hK : ∀ k, k ≠ gkg0 → k < w15.heap.size → w16.heap[k]? = w15.heap[k]? := by
      intro k h0 _; rw [← hw16]
      repeat (first | rfl | refine (Below.heap_setCell _ _ _ _ (by first | exact h0)).trans ?_)
    have rw0_ := rw0.keepBlock z16 (fun k h1 h2 => hK k (by omega) (by have := rw0.2.1; omega))
    clear rw0; have rw0 := rw0_; clear rw0_
    have rxc_ := rxc.keepBlock z16 (fun k h1 h2 => hK k (by omega) (by have := rxc.2.1; omega))
    clear rxc; have rxc := rxc_; clear rxc_
    have rg0_ := rg0.keepBlock z16 (fun k h1 h2 => hK k (by omega) (by have := rg0.2.1; omega))
    clear rg0; have rg0 := rg0_; clear rg0_
    have pc_ : Box w16 (w.heap.size) #[(.slice cA0 cn0 cc0), (.slice cA1 cn1 cc1)] 63 := (by rw [← hw16]; exact (((pc.far (by omega)).far (by omega)).far (by omega)))
    clear pc; have pc := pc_; clear pc_
    have pt_ : Box w16 (w.heap.size + 1) #[.int .i64 tI0, .int .i64 tI1] 69 := (by rw [← hw16]; exact (((pt.far (by omega)).far (by omega)).far (by omega)))
    clear pt; have pt := pt_; clear pt_
    have kw0_ : Box w16 (gkw0) #[.int .i64 (garD cL0 cL1 tI0 tI1), (.slice w0A0 w0n0 w0c0), (.slice w0A1 w0n1 w0c1)] 33 := (by rw [← hw16]; exact (((kw0.far (by omega)).far (by omega)).far (by omega)))
    clear kw0; have kw0 := kw0_; clear kw0_
    have xc_ : Box w16 (w10.heap.size) #[(.slice xcA0 xcn0 xcc0), (.slice xcA1 xcn1 xcc1)] 27 := (by rw [← hw16]; exact (((xc.far (by omega)).far (by omega)).far (by omega)))
    clear xc; have xc := xc_; clear xc_
    have kg0_ : Box w16 (gkg0) #[.int .i64 (garD cL0 cL1 tI0 tI1), (.slice g0A0 g0n0 g0c0), (.slice g0A1 g0n1 g0c1)] 33 := (by rw [← hw16]; exact (((kg0.setAt (i := 0) (v := .int .i64 (garD cL0 cL1 tI0 tI1)) (ds := #[.int .i64 (garD cL0 cL1 tI0 tI1), .slice none 0 0, .slice none 0 0]) (by simp)).setAt (i := 1) (v := (.slice g0A0 g0n0 g0c0)) (ds := #[.int .i64 (garD cL0 cL1 tI0 tI1), (.slice g0A0 g0n0 g0c0), .slice none 0 0]) (by simp)).setAt (i := 2) (v := (.slice g0A1 g0n1 g0c1)) (ds := #[.int .i64 (garD cL0 cL1 tI0 tI1), (.slice g0A0 g0n0 g0c0), (.slice g0A1 g0n1 g0c1)]) (by simp)))
    clear kg0; have kg0 := kg0_; clear kg0_
    clear hw16 hK
    obtain ⟨ckg0_0, ckg0_1, ckg0_2, fkg0_0, fkg0_1, fkg0_2⟩ := kg0.three
    have l_kg0_0 : gkg0 < w16.heap.size := by omega
    obtain ⟨ckw0_0, ckw0_1, ckw0_2, fkw0_0, fkw0_1, fkw0_2⟩ := kw0.three
    have l_kw0_0 : gkw0 < w16.heap.size := by omega
    go_wp2_with fail
    refine (eqGarbled_L (garD cL0 cL1 tI0 tI1) rg0.rd rw0.rd rL0_0n rL0_1n).mono ?_
    rintro e w17 ⟨rfl, b17⟩
    clear ckg0_0 ckg0_1 ckg0_2 fkg0_0 fkg0_1 fkg0_2 l_kg0_0 ckw0_0 ckw0_1 ckw0_2 fkw0_0 fkw0_1 fkw0_2 l_kw0_0
    have z17 := b17.size
    try simp only [World.size_alloc, World.size_setCell, size_drew] at z17
    have B17 : Below w.heap.size w w17 := Below.t b17
    have rw0_ := rw0.below b17
    clear rw0; have rw0 := rw0_; clear rw0_
    have rxc_ := rxc.below b17
    clear rxc; have rxc := rxc_; clear rxc_
    have rg0_ := rg0.below b17
    clear rg0; have rg0 := rg0_; clear rg0_
    have pc_ : Box w17 (w.heap.size) #[(.slice cA0 cn0 cc0), (.slice cA1 cn1 cc1)] 63 := pc.below b17 (by first | omega | (simp [size_drew]; done) | (simp [size_drew]; omega))
    clear pc; have pc := pc_; clear pc_
    have pt_ : Box w17 (w.heap.size + 1) #[.int .i64 tI0, .int .i64 tI1] 69 := pt.below b17 (by first | omega | (simp [size_drew]; done) | (simp [size_drew]; omega))
    clear pt; have pt := pt_; clear pt_
    have kw0_ : Box w17 (gkw0) #[.int .i64 (garD cL0 cL1 tI0 tI1), (.slice w0A0 w0n0 w0c0), (.slice w0A1 w0n1 w0c1)] 33 := kw0.below b17 (by first | omega | (simp [size_drew]; done) | (simp [size_drew]; omega))
    clear kw0; have kw0 := kw0_; clear kw0_
    have xc_ : Box w17 (w10.heap.size) #[(.slice xcA0 xcn0 xcc0), (.slice xcA1 xcn1 xcc1)] 27 := xc.below b17 (by first | omega | (simp [size_drew]; done) | (simp [size_drew]; omega))
    clear xc; have xc := xc_; clear xc_
    have kg0_ : Box w17 (gkg0) #[.int .i64 (garD cL0 cL1 tI0 tI1), (.slice g0A0 g0n0 g0c0), (.slice g0A1 g0n1 g0c1)] 33 := kg0.below b17 (by first | omega | (simp [size_drew]; done) | (simp [size_drew]; omega))
    clear kg0; have kg0 := kg0_; clear kg0_
    obtain ⟨cpc_0, cpc_1, fpc_0, fpc_1⟩ := pc.two
    have l_pc_0 : w.heap.size < w17.heap.size := by omega
    obtain ⟨cxc_0, cxc_1, fxc_0, fxc_1⟩ := xc.two
    have l_xc_0 : w10.heap.size < w17.heap.size := by omega
    go_wp2_with fail
    clear cpc_0 cpc_1 fpc_0 fpc_1 l_pc_0 cxc_0 cxc_1 fxc_0 fxc_1 l_xc_0
    refine wp_region_held_drew (S := fun W => W.cell? ⟨w.heap.size, 0, none⟩ = some ((.slice cA0 cn0 cc0)) ∧ W.cell? ⟨w.heap.size, 1, none⟩ = some ((.slice cA1 cn1 cc1)) ∧ W.cell? ⟨w10.heap.size, 0, none⟩ = some ((.slice xcA0 xcn0 xcc0)) ∧ W.cell? ⟨w10.heap.size, 1, none⟩ = some ((.slice xcA1 xcn1 xcc1))) (by kernel_rfl) ⟨pc.drew.two.1, pc.drew.two.2.1, xc.drew.two.1, xc.drew.two.2.1⟩ (fun hS => ?_)
    (refine tk 0 hS ?_; (try simp only [Act.put, List.setIfInBounds_toArray, List.set_cons_zero, List.set_cons_succ]))
    (refine tk 1 hS ?_; (try simp only [Act.put, List.setIfInBounds_toArray, List.set_cons_zero, List.set_cons_succ]))
    refine on 2 ?_
    refine callH (by go_simp; (first | done | with_reducible rfl | exact ⟨rfl, rfl⟩)) ?_
    go_at_call 49
    refine (toCircuit_L (RdL.cons (d := .gates cL0) cL0h.rd.b (RdL.cons (d := .ints cL1) cL1h.rd.b RdL.nil)) cL0n cL1n).mono ?_
    rintro e w18 ⟨zcA0, zcn0, zcc0, zcA1, zcn1, zcc1, rfl, rzc, b18⟩
    clear hS
    have z18 := Below.size b18
    (try simp only [World.size_alloc, World.size_setCell, size_drew] at z18)
    have B18 : Below w.heap.size w w18 := Below.t b18
    have rw0_ := (rw0.drew.below b18)
    clear rw0; have rw0 := rw0_; clear rw0_
    have rxc_ := (rxc.drew.below b18)
    clear rxc; have rxc := rxc_; clear rxc_
    have rg0_ := (rg0.drew.below b18)
    clear rg0; have rg0 := rg0_; clear rg0_
    have pc_ : Box w18 (w.heap.size) #[(.slice cA0 cn0 cc0), (.slice cA1 cn1 cc1)] 63 := (Box.b pc.drew b18)
    clear pc; have pc := pc_; clear pc_
    have pt_ : Box w18 (w.heap.size + 1) #[.int .i64 tI0, .int .i64 tI1] 69 := (Box.b pt.drew b18)
    clear pt; have pt := pt_; clear pt_
    have kw0_ : Box w18 (gkw0) #[.int .i64 (garD cL0 cL1 tI0 tI1), (.slice w0A0 w0n0 w0c0), (.slice w0A1 w0n1 w0c1)] 33 := (Box.b kw0.drew b18)
    clear kw0; have kw0 := kw0_; clear kw0_
    have xc_ : Box w18 (w10.heap.size) #[(.slice xcA0 xcn0 xcc0), (.slice xcA1 xcn1 xcc1)] 27 := (Box.b xc.drew b18)
    clear xc; have xc := xc_; clear xc_
    have kg0_ : Box w18 (gkg0) #[.int .i64 (garD cL0 cL1 tI0 tI1), (.slice g0A0 g0n0 g0c0), (.slice g0A1 g0n1 g0c1)] 33 := (Box.b kg0.drew b18)
    clear kg0; have kg0 := kg0_; clear kg0_
    (try simp only [World.size_alloc, World.size_setCell, size_drew] at rzc)
    refine ⟨_, rfl, ⟨pc.two.1, pc.two.2.1, xc.two.1, xc.two.2.1⟩, fun hS => ?_⟩
    (try simp only [Act.put, List.setIfInBounds_toArray, List.set_cons_zero, List.set_cons_succ])
    refine on 3 ?_
    refine callH (by go_simp; (first | done | with_reducible rfl | exact ⟨rfl, rfl⟩)) ?_
    go_at_call 51
    refine (eqCircuit_L rxc.rd rzc.rd cL0n cL1n).mono ?_
    rintro e w19 ⟨rfl, b19⟩
    clear hS
    have z19 := Below.size b19
    (try simp only [World.size_alloc, World.size_setCell, size_drew] at z19)
    have B19 : Below w.heap.size w w19 := Below.t b19
    have rw0_ := (rw0.below b19)
    clear rw0; have rw0 := rw0_; clear rw0_
    have rxc_ := (rxc.below b19)
    clear rxc; have rxc := rxc_; clear rxc_
    have rg0_ := (rg0.below b19)
    clear rg0; have rg0 := rg0_; clear rg0_
    have rzc_ := (rzc.below b19)
    clear rzc; have rzc := rzc_; clear rzc_
    have pc_ : Box w19 (w.heap.size) #[(.slice cA0 cn0 cc0), (.slice cA1 cn1 cc1)] 63 := (Box.b pc b19)
    clear pc; have pc := pc_; clear pc_
    have pt_ : Box w19 (w.heap.size + 1) #[.int .i64 tI0, .int .i64 tI1] 69 := (Box.b pt b19)
    clear pt; have pt := pt_; clear pt_
    have kw0_ : Box w19 (gkw0) #[.int .i64 (garD cL0 cL1 tI0 tI1), (.slice w0A0 w0n0 w0c0), (.slice w0A1 w0n1 w0c1)] 33 := (Box.b kw0 b19)
    clear kw0; have kw0 := kw0_; clear kw0_
    have xc_ : Box w19 (w10.heap.size) #[(.slice xcA0 xcn0 xcc0), (.slice xcA1 xcn1 xcc1)] 27 := (Box.b xc b19)
    clear xc; have xc := xc_; clear xc_
    have kg0_ : Box w19 (gkg0) #[.int .i64 (garD cL0 cL1 tI0 tI1), (.slice g0A0 g0n0 g0c0), (.slice g0A1 g0n1 g0c1)] 33 := (Box.b kg0 b19)
    clear kg0; have kg0 := kg0_; clear kg0_
    refine ⟨_, rfl, ⟨pc.two.1, pc.two.2.1, xc.two.1, xc.two.2.1⟩, fun hS => ?_⟩
    (try simp only [Act.put, List.setIfInBounds_toArray, List.set_cons_zero, List.set_cons_succ])
    (refine tk 4 hS ?_; (try simp only [Act.put, List.setIfInBounds_toArray, List.set_cons_zero, List.set_cons_succ]))
    clear hS
    refine wpAnyH_done (by kernel_rfl) ?_ _
    obtain ⟨cxc_0, cxc_1, fxc_0, fxc_1⟩ := xc.two
    have l_xc_0 : w10.heap.size < w19.heap.size := by omega
    go_wp2_with fail
    refine (markCircuit_L (1) _ rxc (by first | omega | (simp [size_drew]; done) | (simp [size_drew]; omega)) (by omega) cL0n cL1n).mono ?_
    rintro e w20 ⟨rfl, rxc, c20⟩
    clear cxc_0 cxc_1 fxc_0 fxc_1 l_xc_0
    have z20 := c20.size
    try simp only [World.size_alloc, World.size_setCell, size_drew] at z20
    have rw0_ := rw0.away c20 (by omega)
    clear rw0; have rw0 := rw0_; clear rw0_
    have rg0_ := rg0.away c20 (by omega)
    clear rg0; have rg0 := rg0_; clear rg0_
    have pc_ : Box w20 (w.heap.size) #[(.slice cA0 cn0 cc0), (.slice cA1 cn1 cc1)] 63 := pc.chg c20 (by omega)
    clear pc; have pc := pc_; clear pc_
    have pt_ : Box w20 (w.heap.size + 1) #[.int .i64 tI0, .int .i64 tI1] 69 := pt.chg c20 (by omega)
    clear pt; have pt := pt_; clear pt_
    have kw0_ : Box w20 (gkw0) #[.int .i64 (garD cL0 cL1 tI0 tI1), (.slice w0A0 w0n0 w0c0), (.slice w0A1 w0n1 w0c1)] 33 := kw0.chg c20 (by omega)
    clear kw0; have kw0 := kw0_; clear kw0_
    have xc_ : Box w20 (w10.heap.size) #[(.slice xcA0 xcn0 xcc0), (.slice xcA1 xcn1 xcc1)] 27 := xc.chg c20 (by omega)
    clear xc; have xc := xc_; clear xc_
    have kg0_ : Box w20 (gkg0) #[.int .i64 (garD cL0 cL1 tI0 tI1), (.slice g0A0 g0n0 g0c0), (.slice g0A1 g0n1 g0c1)] 33 := kg0.chg c20 (by omega)
    clear kg0; have kg0 := kg0_; clear kg0_
    have B20 : Below w.heap.size w w20 := B19.trans (c20.below (by omega) (by omega))
    obtain ⟨ckg0_0, ckg0_1, ckg0_2, fkg0_0, fkg0_1, fkg0_2⟩ := kg0.three
    have l_kg0_0 : gkg0 < w20.heap.size := by omega
    obtain ⟨ckw0_0, ckw0_1, ckw0_2, fkw0_0, fkw0_1, fkw0_2⟩ := kw0.three
    have l_kw0_0 : gkw0 < w20.heap.size := by omega
    go_wp2_with fail
    refine (eqGarbled_L (garD cL0 cL1 tI0 tI1) rg0.rd rw0.rd rL0_0n rL0_1n).mono ?_
    rintro e w21 ⟨rfl, b21⟩
    clear ckg0_0 ckg0_1 ckg0_2 fkg0_0 fkg0_1 fkg0_2 l_kg0_0 ckw0_0 ckw0_1 ckw0_2 fkw0_0 fkw0_1 fkw0_2 l_kw0_0
    have z21 := b21.size
    try simp only [World.size_alloc, World.size_setCell, size_drew] at z21
    have B21 : Below w.heap.size w w21 := Below.t b21
    have rw0_ := rw0.below b21
    clear rw0; have rw0 := rw0_; clear rw0_
    have rg0_ := rg0.below b21
    clear rg0; have rg0 := rg0_; clear rg0_
    have rxc_ := rxc.below b21
    clear rxc; have rxc := rxc_; clear rxc_
    have pc_ : Box w21 (w.heap.size) #[(.slice cA0 cn0 cc0), (.slice cA1 cn1 cc1)] 63 := pc.below b21 (by first | omega | (simp [size_drew]; done) | (simp [size_drew]; omega))
    clear pc; have pc := pc_; clear pc_
    have pt_ : Box w21 (w.heap.size + 1) #[.int .i64 tI0, .int .i64 tI1] 69 := pt.below b21 (by first | omega | (simp [size_drew]; done) | (simp [size_drew]; omega))
    clear pt; have pt := pt_; clear pt_
    have kw0_ : Box w21 (gkw0) #[.int .i64 (garD cL0 cL1 tI0 tI1), (.slice w0A0 w0n0 w0c0), (.slice w0A1 w0n1 w0c1)] 33 := kw0.below b21 (by first | omega | (simp [size_drew]; done) | (simp [size_drew]; omega))
    clear kw0; have kw0 := kw0_; clear kw0_
    have xc_ : Box w21 (w10.heap.size) #[(.slice xcA0 xcn0 xcc0), (.slice xcA1 xcn1 xcc1)] 27 := xc.below b21 (by first | omega | (simp [size_drew]; done) | (simp [size_drew]; omega))
    clear xc; have xc := xc_; clear xc_
    have kg0_ : Box w21 (gkg0) #[.int .i64 (garD cL0 cL1 tI0 tI1), (.slice g0A0 g0n0 g0c0), (.slice g0A1 g0n1 g0c1)] 33 := kg0.below b21 (by first | omega | (simp [size_drew]; done) | (simp [size_drew]; omega))
    clear kg0; have kg0 := kg0_; clear kg0_
    obtain ⟨ckg0_0, ckg0_1, ckg0_2, fkg0_0, fkg0_1, fkg0_2⟩ := kg0.three
    have l_kg0_0 : gkg0 < w21.heap.size := by omega
    go_wp2_with fail
    refine (markGarbled_L (garD cL0 cL1 tI0 tI1) (1) _ rg0 (by first | omega | (simp [size_drew]; done) | (simp [size_drew]; omega)) (by omega) rL0_0n rL0_1n).mono ?_
    rintro e w22 ⟨rfl, rg0, c22⟩
    clear ckg0_0 ckg0_1 ckg0_2 fkg0_0 fkg0_1 fkg0_2 l_kg0_0
    have z22 := c22.size
    try simp only [World.size_alloc, World.size_setCell, size_drew] at z22
    have rw0_ := rw0.away c22 (by omega)
    clear rw0; have rw0 := rw0_; clear rw0_
    have pc_ : Box w22 (w.heap.size) #[(.slice cA0 cn0 cc0), (.slice cA1 cn1 cc1)] 63 := pc.chg c22 (by omega)
    clear pc; have pc := pc_; clear pc_
    have pt_ : Box w22 (w.heap.size + 1) #[.int .i64 tI0, .int .i64 tI1] 69 := pt.chg c22 (by omega)
    clear pt; have pt := pt_; clear pt_
    have kw0_ : Box w22 (gkw0) #[.int .i64 (garD cL0 cL1 tI0 tI1), (.slice w0A0 w0n0 w0c0), (.slice w0A1 w0n1 w0c1)] 33 := kw0.chg c22 (by omega)
    clear kw0; have kw0 := kw0_; clear kw0_
    have kg0_ : Box w22 (gkg0) #[.int .i64 (garD cL0 cL1 tI0 tI1), (.slice g0A0 g0n0 g0c0), (.slice g0A1 g0n1 g0c1)] 33 := kg0.chg c22 (by omega)
    clear kg0; have kg0 := kg0_; clear kg0_
    have B22 : Below w.heap.size w w22 := B21.trans (c22.below (by omega) (by omega))
    obtain ⟨ckg0_0, ckg0_1, ckg0_2, fkg0_0, fkg0_1, fkg0_2⟩ := kg0.three
    have l_kg0_0 : gkg0 < w22.heap.size := by omega
    go_wp2_with fail
    refine (heldGarbled_L (garZ cL0 cL1 tI0 tI1).length (garT cL0 cL1 tI0 tI1).length (garD cL0 cL1 tI0 tI1) (1) _ rg0.rd (by first | omega | (simp [size_drew]; done) | (simp [size_drew]; omega)) (by omega) rL0_0n rL0_1n).mono ?_
    rintro e w23 ⟨rfl, b23⟩
    clear ckg0_0 ckg0_1 ckg0_2 fkg0_0 fkg0_1 fkg0_2 l_kg0_0
    have z23 := b23.size
    try simp only [World.size_alloc, World.size_setCell, size_drew] at z23
    have B23 : Below w.heap.size w w23 := Below.t b23
    have rw0_ := rw0.below b23
    clear rw0; have rw0 := rw0_; clear rw0_
    have rg0_ := rg0.below b23
    clear rg0; have rg0 := rg0_; clear rg0_
    have pc_ : Box w23 (w.heap.size) #[(.slice cA0 cn0 cc0), (.slice cA1 cn1 cc1)] 63 := pc.below b23 (by first | omega | (simp [size_drew]; done) | (simp [size_drew]; omega))
    clear pc; have pc := pc_; clear pc_
    have pt_ : Box w23 (w.heap.size + 1) #[.int .i64 tI0, .int .i64 tI1] 69 := pt.below b23 (by first | omega | (simp [size_drew]; done) | (simp [size_drew]; omega))
    clear pt; have pt := pt_; clear pt_
    have kw0_ : Box w23 (gkw0) #[.int .i64 (garD cL0 cL1 tI0 tI1), (.slice w0A0 w0n0 w0c0), (.slice w0A1 w0n1 w0c1)] 33 := kw0.below b23 (by first | omega | (simp [size_drew]; done) | (simp [size_drew]; omega))
    clear kw0; have kw0 := kw0_; clear kw0_
    have kg0_ : Box w23 (gkg0) #[.int .i64 (garD cL0 cL1 tI0 tI1), (.slice g0A0 g0n0 g0c0), (.slice g0A1 g0n1 g0c1)] 33 := kg0.below b23 (by first | omega | (simp [size_drew]; done) | (simp [size_drew]; omega))
    clear kg0; have kg0 := kg0_; clear kg0_
    obtain ⟨cpc_0, cpc_1, fpc_0, fpc_1⟩ := pc.two
    have l_pc_0 : w.heap.size < w23.heap.size := by omega
    obtain ⟨cpt_0, cpt_1, fpt_0, fpt_1⟩ := pt.two
    have l_pt_0 : w.heap.size + 1 < w23.heap.size := by omega
    go_wp2_with fail
    clear cpc_0 cpc_1 fpc_0 fpc_1 l_pc_0 cpt_0 cpt_1 fpt_0 fpt_1 l_pt_0
    refine wp_region_M [9] (w23.heap.size) 11 (S := fun W => Below w.heap.size w W ∧ Below w23.heap.size w23 W ∧ W.cell? ⟨w.heap.size, 0, none⟩ = some ((.slice cA0 cn0 cc0)) ∧ W.cell? ⟨w.heap.size, 1, none⟩ = some ((.slice cA1 cn1 cc1)) ∧ W.cell? ⟨w.heap.size + 1, 0, none⟩ = some (.int .i64 tI0) ∧ W.cell? ⟨w.heap.size + 1, 1, none⟩ = some (.int .i64 tI1)) (by kernel_rfl) (by rfl) (fun W hW => ⟨Below.trans (b := _) (by repeat (with_reducible (first | assumption | exact Below.refl _ _ | refine Below.alloc ?_ (by first | omega | (simp; done) | (simp; omega)) _ | refine Below.setCell ?_ (by first | omega | (simp; done) | (simp; omega)) _ | refine Below.drew ?_ | refine below_drewN ?_ _))) (Below.mono hW (by first | omega | (simp [size_drew]; done) | (simp [size_drew]; omega))), Below.trans (b := _) (by repeat (with_reducible (first | assumption | exact Below.refl _ _ | refine Below.alloc ?_ (by first | omega | (simp; done) | (simp; omega)) _ | refine Below.setCell ?_ (by first | omega | (simp; done) | (simp; omega)) _ | refine Below.drew ?_ | refine below_drewN ?_ _))) (Below.mono hW (by first | omega | (simp [size_drew]; done) | (simp [size_drew]; omega))), (Box.below pc.drew hW (by first | omega | (simp [size_drew]; done) | (simp [size_drew]; omega))).two.1, (Box.below pc.drew hW (by first | omega | (simp [size_drew]; done) | (simp [size_drew]; omega))).two.2.1, (Box.below pt.drew hW (by first | omega | (simp [size_drew]; done) | (simp [size_drew]; omega))).two.1, (Box.below pt.drew hW (by first | omega | (simp [size_drew]; done) | (simp [size_drew]; omega))).two.2.1⟩) (by first | omega | (simp [size_drew]; done) | (simp [size_drew]; omega)) (fun hS hG => ?_)
    (try dsimp only at hS)
    refine pendM 8 14 #[.int .i64 0, .slice none 0 0, .slice none 0 0] 33 (by simp only [List.getElem?_toArray, List.getElem?_cons_succ, List.getElem?_cons_zero] <;> rfl) (by kernel_rfl) (by exact fun _ _ _ _ h => h) (by intro a W; unfold ptr; go_simp; (first | done | rfl)) hG ?_
    (refine tkM 0 hG hS ?_; (try simp only [Act.put, List.setIfInBounds_toArray, List.set_cons_zero, List.set_cons_succ]))
    (refine tkM 2 hG hS ?_; (try simp only [Act.put, List.setIfInBounds_toArray, List.set_cons_zero, List.set_cons_succ]))
    refine callM hG (i := 1) (by simp only [List.getElem?_toArray, List.getElem?_cons_succ, List.getElem?_cons_zero] <;> rfl) (by kernel_rfl) (by rfl) (by rfl) (by intro W hW; have hSw := hS W hW; (try dsimp only at hSw); go_simp; (first | done | with_reducible rfl | exact ⟨rfl, rfl⟩)) ?_
    intro w24 b24
    have B24 : Below w.heap.size w w24 := (hS w24 b24).1
    have z24 := Below.size b24
    (try simp only [World.size_alloc, World.size_setCell, size_drew] at z24)
    have rw0_ := (rw0.drew.below b24)
    clear rw0; have rw0 := rw0_; clear rw0_
    have rg0_ := (rg0.drew.below b24)
    clear rg0; have rg0 := rg0_; clear rg0_
    have pc_ : Box w24 (w.heap.size) #[(.slice cA0 cn0 cc0), (.slice cA1 cn1 cc1)] 63 := (Box.b pc.drew b24)
    clear pc; have pc := pc_; clear pc_
    have pt_ : Box w24 (w.heap.size + 1) #[.int .i64 tI0, .int .i64 tI1] 69 := (Box.b pt.drew b24)
    clear pt; have pt := pt_; clear pt_
    have kw0_ : Box w24 (gkw0) #[.int .i64 (garD cL0 cL1 tI0 tI1), (.slice w0A0 w0n0 w0c0), (.slice w0A1 w0n1 w0c1)] 33 := (Box.b kw0.drew b24)
    clear kw0; have kw0 := kw0_; clear kw0_
    have kg0_ : Box w24 (gkg0) #[.int .i64 (garD cL0 cL1 tI0 tI1), (.slice g0A0 g0n0 g0c0), (.slice g0A1 g0n1 g0c1)] 33 := (Box.b kg0.drew b24)
    clear kg0; have kg0 := kg0_; clear kg0_
    clear hS hG
    go_at_call 49
    refine (toCircuit_L (RdL.cons (d := .gates cL0) cL0h.rd.b (RdL.cons (d := .ints cL1) cL1h.rd.b RdL.nil)) cL0n cL1n).mono ?_
    rintro e w25 ⟨tcA0, tcn0, tcc0, tcA1, tcn1, tcc1, rfl, rtc, b25⟩
    refine ⟨_, rfl, b25, fun hG => ?_⟩
    have z25 := Below.size b25
    have B25 : Below w.heap.size w w25 := Below.t b25
    have rw0_ := (rw0.below b25)
    clear rw0; have rw0 := rw0_; clear rw0_
    have rg0_ := (rg0.below b25)
    clear rg0; have rg0 := rg0_; clear rg0_
    have pc_ : Box w25 (w.heap.size) #[(.slice cA0 cn0 cc0), (.slice cA1 cn1 cc1)] 63 := (Box.b pc b25)
    clear pc; have pc := pc_; clear pc_
    have pt_ : Box w25 (w.heap.size + 1) #[.int .i64 tI0, .int .i64 tI1] 69 := (Box.b pt b25)
    clear pt; have pt := pt_; clear pt_
    have kw0_ : Box w25 (gkw0) #[.int .i64 (garD cL0 cL1 tI0 tI1), (.slice w0A0 w0n0 w0c0), (.slice w0A1 w0n1 w0c1)] 33 := (Box.b kw0 b25)
    clear kw0; have kw0 := kw0_; clear kw0_
    have kg0_ : Box w25 (gkg0) #[.int .i64 (garD cL0 cL1 tI0 tI1), (.slice g0A0 g0n0 g0c0), (.slice g0A1 g0n1 g0c1)] 33 := (Box.b kg0 b25)
    clear kg0; have kg0 := kg0_; clear kg0_
    (try simp only [Act.put, List.setIfInBounds_toArray, List.set_cons_zero, List.set_cons_succ])
    have hS : ∀ W, Later w25 W → (Below w.heap.size w W ∧ Below w25.heap.size w25 W ∧ W.cell? ⟨w.heap.size, 0, none⟩ = some ((.slice cA0 cn0 cc0)) ∧ W.cell? ⟨w.heap.size, 1, none⟩ = some ((.slice cA1 cn1 cc1)) ∧ W.cell? ⟨w.heap.size + 1, 0, none⟩ = some (.int .i64 tI0) ∧ W.cell? ⟨w.heap.size + 1, 1, none⟩ = some (.int .i64 tI1)) := fun W hW => ⟨Below.trans (b := _) (by repeat (with_reducible (first | assumption | exact Below.refl _ _ | refine Below.alloc ?_ (by first | omega | (simp; done) | (simp; omega)) _ | refine Below.setCell ?_ (by first | omega | (simp; done) | (simp; omega)) _ | refine Below.drew ?_ | refine below_drewN ?_ _))) (Below.mono hW (by first | omega | (simp [size_drew]; done) | (simp [size_drew]; omega))), Below.trans (b := _) (by repeat (with_reducible (first | assumption | exact Below.refl _ _ | refine Below.alloc ?_ (by first | omega | (simp; done) | (simp; omega)) _ | refine Below.setCell ?_ (by first | omega | (simp; done) | (simp; omega)) _ | refine Below.drew ?_ | refine below_drewN ?_ _))) (Below.mono hW (by first | omega | (simp [size_drew]; done) | (simp [size_drew]; omega))), (Box.below pc hW (by first | omega | (simp [size_drew]; done) | (simp [size_drew]; omega))).two.1, (Box.below pc hW (by first | omega | (simp [size_drew]; done) | (simp [size_drew]; omega))).two.2.1, (Box.below pt hW (by first | omega | (simp [size_drew]; done) | (simp [size_drew]; omega))).two.1, (Box.below pt hW (by first | omega | (simp [size_drew]; done) | (simp [size_drew]; omega))).two.2.1⟩
    refine callM hG (i := 3) (by simp only [List.getElem?_toArray, List.getElem?_cons_succ, List.getElem?_cons_zero] <;> rfl) (by kernel_rfl) (by rfl) (by rfl) (by intro W hW; have hSw := hS W hW; (try dsimp only at hSw); go_simp; (first | done | with_reducible rfl | exact ⟨rfl, rfl⟩)) ?_
    intro w26 b26
    have B26 : Below w.heap.size w w26 := (hS w26 b26).1
    have z26 := Below.size b26
    (try simp only [World.size_alloc, World.size_setCell, size_drew] at z26)
    have rw0_ := (rw0.below b26)
    clear rw0; have rw0 := rw0_; clear rw0_
    have rg0_ := (rg0.below b26)
    clear rg0; have rg0 := rg0_; clear rg0_
    have rtc_ := (rtc.below b26)
    clear rtc; have rtc := rtc_; clear rtc_
    have pc_ : Box w26 (w.heap.size) #[(.slice cA0 cn0 cc0), (.slice cA1 cn1 cc1)] 63 := (Box.b pc b26)
    clear pc; have pc := pc_; clear pc_
    have pt_ : Box w26 (w.heap.size + 1) #[.int .i64 tI0, .int .i64 tI1] 69 := (Box.b pt b26)
    clear pt; have pt := pt_; clear pt_
    have kw0_ : Box w26 (gkw0) #[.int .i64 (garD cL0 cL1 tI0 tI1), (.slice w0A0 w0n0 w0c0), (.slice w0A1 w0n1 w0c1)] 33 := (Box.b kw0 b26)
    clear kw0; have kw0 := kw0_; clear kw0_
    have kg0_ : Box w26 (gkg0) #[.int .i64 (garD cL0 cL1 tI0 tI1), (.slice g0A0 g0n0 g0c0), (.slice g0A1 g0n1 g0c1)] 33 := (Box.b kg0 b26)
    clear kg0; have kg0 := kg0_; clear kg0_
    clear hS hG
    go_at_call 54
    refine (toTape_L tI0 tI1).mono ?_
    rintro e w27 ⟨rfl, b27⟩
    refine ⟨_, rfl, b27, fun hG => ?_⟩
    have z27 := Below.size b27
    have B27 : Below w.heap.size w w27 := Below.t b27
    have rw0_ := (rw0.below b27)
    clear rw0; have rw0 := rw0_; clear rw0_
    have rg0_ := (rg0.below b27)
    clear rg0; have rg0 := rg0_; clear rg0_
    have rtc_ := (rtc.below b27)
    clear rtc; have rtc := rtc_; clear rtc_
    have pc_ : Box w27 (w.heap.size) #[(.slice cA0 cn0 cc0), (.slice cA1 cn1 cc1)] 63 := (Box.b pc b27)
    clear pc; have pc := pc_; clear pc_
    have pt_ : Box w27 (w.heap.size + 1) #[.int .i64 tI0, .int .i64 tI1] 69 := (Box.b pt b27)
    clear pt; have pt := pt_; clear pt_
    have kw0_ : Box w27 (gkw0) #[.int .i64 (garD cL0 cL1 tI0 tI1), (.slice w0A0 w0n0 w0c0), (.slice w0A1 w0n1 w0c1)] 33 := (Box.b kw0 b27)
    clear kw0; have kw0 := kw0_; clear kw0_
    have kg0_ : Box w27 (gkg0) #[.int .i64 (garD cL0 cL1 tI0 tI1), (.slice g0A0 g0n0 g0c0), (.slice g0A1 g0n1 g0c1)] 33 := (Box.b kg0 b27)
    clear kg0; have kg0 := kg0_; clear kg0_
    (try simp only [Act.put, List.setIfInBounds_toArray, List.set_cons_zero, List.set_cons_succ])
    have hS : ∀ W, Later w27 W → (Below w.heap.size w W ∧ Below w27.heap.size w27 W ∧ W.cell? ⟨w.heap.size, 0, none⟩ = some ((.slice cA0 cn0 cc0)) ∧ W.cell? ⟨w.heap.size, 1, none⟩ = some ((.slice cA1 cn1 cc1)) ∧ W.cell? ⟨w.heap.size + 1, 0, none⟩ = some (.int .i64 tI0) ∧ W.cell? ⟨w.heap.size + 1, 1, none⟩ = some (.int .i64 tI1)) := fun W hW => ⟨Below.trans (b := _) (by repeat (with_reducible (first | assumption | exact Below.refl _ _ | refine Below.alloc ?_ (by first | omega | (simp; done) | (simp; omega)) _ | refine Below.setCell ?_ (by first | omega | (simp; done) | (simp; omega)) _ | refine Below.drew ?_ | refine below_drewN ?_ _))) (Below.mono hW (by first | omega | (simp [size_drew]; done) | (simp [size_drew]; omega))), Below.trans (b := _) (by repeat (with_reducible (first | assumption | exact Below.refl _ _ | refine Below.alloc ?_ (by first | omega | (simp; done) | (simp; omega)) _ | refine Below.setCell ?_ (by first | omega | (simp; done) | (simp; omega)) _ | refine Below.drew ?_ | refine below_drewN ?_ _))) (Below.mono hW (by first | omega | (simp [size_drew]; done) | (simp [size_drew]; omega))), (Box.below pc hW (by first | omega | (simp [size_drew]; done) | (simp [size_drew]; omega))).two.1, (Box.below pc hW (by first | omega | (simp [size_drew]; done) | (simp [size_drew]; omega))).two.2.1, (Box.below pt hW (by first | omega | (simp [size_drew]; done) | (simp [size_drew]; omega))).two.1, (Box.below pt hW (by first | omega | (simp [size_drew]; done) | (simp [size_drew]; omega))).two.2.1⟩
    refine callM hG (i := 4) (by simp only [List.getElem?_toArray, List.getElem?_cons_succ, List.getElem?_cons_zero] <;> rfl) (by kernel_rfl) (by rfl) (by rfl) (by intro W hW; have hSw := hS W hW; (try dsimp only at hSw); go_simp; (first | done | with_reducible rfl | exact ⟨rfl, rfl⟩)) ?_
    intro w28 b28
    have B28 : Below w.heap.size w w28 := (hS w28 b28).1
    have z28 := Below.size b28
    (try simp only [World.size_alloc, World.size_setCell, size_drew] at z28)
    have rw0_ := (rw0.below b28)
    clear rw0; have rw0 := rw0_; clear rw0_
    have rg0_ := (rg0.below b28)
    clear rg0; have rg0 := rg0_; clear rg0_
    have rtc_ := (rtc.below b28)
    clear rtc; have rtc := rtc_; clear rtc_
    have pc_ : Box w28 (w.heap.size) #[(.slice cA0 cn0 cc0), (.slice cA1 cn1 cc1)] 63 := (Box.b pc b28)
    clear pc; have pc := pc_; clear pc_
    have pt_ : Box w28 (w.heap.size + 1) #[.int .i64 tI0, .int .i64 tI1] 69 := (Box.b pt b28)
    clear pt; have pt := pt_; clear pt_
    have kw0_ : Box w28 (gkw0) #[.int .i64 (garD cL0 cL1 tI0 tI1), (.slice w0A0 w0n0 w0c0), (.slice w0A1 w0n1 w0c1)] 33 := (Box.b kw0 b28)
    clear kw0; have kw0 := kw0_; clear kw0_
    have kg0_ : Box w28 (gkg0) #[.int .i64 (garD cL0 cL1 tI0 tI1), (.slice g0A0 g0n0 g0c0), (.slice g0A1 g0n1 g0c1)] 33 := (Box.b kg0 b28)
    clear kg0; have kg0 := kg0_; clear kg0_
    clear hS hG
    go_at_call 24
    refine (iGarble_L rtc.rd cL0n cL1n tI0 tI1).mono ?_
    rintro e w29 ⟨h0A0, h0n0, h0c0, h0A1, h0n1, h0c1, rfl, rh0, b29⟩
    refine ⟨_, rfl, b29, fun hG => ?_⟩
    have z29 := Below.size b29
    have B29 : Below w.heap.size w w29 := Below.t b29
    have rw0_ := (rw0.below b29)
    clear rw0; have rw0 := rw0_; clear rw0_
    have rg0_ := (rg0.below b29)
    clear rg0; have rg0 := rg0_; clear rg0_
    have rtc_ := (rtc.below b29)
    clear rtc; have rtc := rtc_; clear rtc_
    have pc_ : Box w29 (w.heap.size) #[(.slice cA0 cn0 cc0), (.slice cA1 cn1 cc1)] 63 := (Box.b pc b29)
    clear pc; have pc := pc_; clear pc_
    have pt_ : Box w29 (w.heap.size + 1) #[.int .i64 tI0, .int .i64 tI1] 69 := (Box.b pt b29)
    clear pt; have pt := pt_; clear pt_
    have kw0_ : Box w29 (gkw0) #[.int .i64 (garD cL0 cL1 tI0 tI1), (.slice w0A0 w0n0 w0c0), (.slice w0A1 w0n1 w0c1)] 33 := (Box.b kw0 b29)
    clear kw0; have kw0 := kw0_; clear kw0_
    have kg0_ : Box w29 (gkg0) #[.int .i64 (garD cL0 cL1 tI0 tI1), (.slice g0A0 g0n0 g0c0), (.slice g0A1 g0n1 g0c1)] 33 := (Box.b kg0 b29)
    clear kg0; have kg0 := kg0_; clear kg0_
    (try simp only [Act.put, List.setIfInBounds_toArray, List.set_cons_zero, List.set_cons_succ])
    have hS : ∀ W, Later w29 W → (Below w.heap.size w W ∧ Below w29.heap.size w29 W ∧ W.cell? ⟨w.heap.size, 0, none⟩ = some ((.slice cA0 cn0 cc0)) ∧ W.cell? ⟨w.heap.size, 1, none⟩ = some ((.slice cA1 cn1 cc1)) ∧ W.cell? ⟨w.heap.size + 1, 0, none⟩ = some (.int .i64 tI0) ∧ W.cell? ⟨w.heap.size + 1, 1, none⟩ = some (.int .i64 tI1)) := fun W hW => ⟨Below.trans (b := _) (by repeat (with_reducible (first | assumption | exact Below.refl _ _ | refine Below.alloc ?_ (by first | omega | (simp; done) | (simp; omega)) _ | refine Below.setCell ?_ (by first | omega | (simp; done) | (simp; omega)) _ | refine Below.drew ?_ | refine below_drewN ?_ _))) (Below.mono hW (by first | omega | (simp [size_drew]; done) | (simp [size_drew]; omega))), Below.trans (b := _) (by repeat (with_reducible (first | assumption | exact Below.refl _ _ | refine Below.alloc ?_ (by first | omega | (simp; done) | (simp; omega)) _ | refine Below.setCell ?_ (by first | omega | (simp; done) | (simp; omega)) _ | refine Below.drew ?_ | refine below_drewN ?_ _))) (Below.mono hW (by first | omega | (simp [size_drew]; done) | (simp [size_drew]; omega))), (Box.below pc hW (by first | omega | (simp [size_drew]; done) | (simp [size_drew]; omega))).two.1, (Box.below pc hW (by first | omega | (simp [size_drew]; done) | (simp [size_drew]; omega))).two.2.1, (Box.below pt hW (by first | omega | (simp [size_drew]; done) | (simp [size_drew]; omega))).two.1, (Box.below pt hW (by first | omega | (simp [size_drew]; done) | (simp [size_drew]; omega))).two.2.1⟩
    (refine tkM 5 hG hS ?_; (try simp only [Act.put, List.setIfInBounds_toArray, List.set_cons_zero, List.set_cons_succ]))
    (refine tkM 6 hG hS ?_; (try simp only [Act.put, List.setIfInBounds_toArray, List.set_cons_zero, List.set_cons_succ]))
    (refine tkY 7 hG ?_; (try simp only [Act.put, List.setIfInBounds_toArray, List.set_cons_zero, List.set_cons_succ]))
    refine storeM (z := 9) (by simp only [List.getElem?_toArray, List.getElem?_cons_succ, List.getElem?_cons_zero] <;> rfl) (by kernel_rfl) (by rfl) (by rfl) ?_
    intro w30 b30
    have B30 : Below w.heap.size w w30 := (hS w30 b30).1
    have z30 := Below.size b30
    (try simp only [World.size_alloc, World.size_setCell, size_drew] at z30)
    have rw0_ := (rw0.below b30)
    clear rw0; have rw0 := rw0_; clear rw0_
    have rg0_ := (rg0.below b30)
    clear rg0; have rg0 := rg0_; clear rg0_
    have rtc_ := (rtc.below b30)
    clear rtc; have rtc := rtc_; clear rtc_
    have rh0_ := (rh0.below b30)
    clear rh0; have rh0 := rh0_; clear rh0_
    have pc_ : Box w30 (w.heap.size) #[(.slice cA0 cn0 cc0), (.slice cA1 cn1 cc1)] 63 := (Box.b pc b30)
    clear pc; have pc := pc_; clear pc_
    have pt_ : Box w30 (w.heap.size + 1) #[.int .i64 tI0, .int .i64 tI1] 69 := (Box.b pt b30)
    clear pt; have pt := pt_; clear pt_
    have kw0_ : Box w30 (gkw0) #[.int .i64 (garD cL0 cL1 tI0 tI1), (.slice w0A0 w0n0 w0c0), (.slice w0A1 w0n1 w0c1)] 33 := (Box.b kw0 b30)
    clear kw0; have kw0 := kw0_; clear kw0_
    have kg0_ : Box w30 (gkg0) #[.int .i64 (garD cL0 cL1 tI0 tI1), (.slice g0A0 g0n0 g0c0), (.slice g0A1 g0n1 g0c1)] 33 := (Box.b kg0 b30)
    clear kg0; have kg0 := kg0_; clear kg0_
    clear hS hG
    refine Zc.cons fun gkh0 kh0 nkh0 => ?_
    have nkh0_0 := nkh0 (w28.heap.size, w29.heap.size) (by simp)
    dsimp only at nkh0_0 kh0
    have nkh0_1 := nkh0 (w26.heap.size, w27.heap.size) (by simp)
    dsimp only at nkh0_1 kh0
    have nkh0_2 := nkh0 (w24.heap.size, w25.heap.size) (by simp)
    dsimp only at nkh0_2 kh0
    have nkh0_3 := nkh0 (0, w23.heap.size) (by simp)
    dsimp only at nkh0_3 kh0
    clear nkh0
    refine Zc.nil ?_
    (try unfold ptr)
    (try simp only [Act.put, List.setIfInBounds_toArray, List.set_cons_zero, List.set_cons_succ])
    have lkh0 := kh0.lt
    obtain ⟨ckh0_0, ckh0_1, ckh0_2, fkh0_0, fkh0_1, fkh0_2⟩ := kh0.three
    refine ⟨_, by go_simp; (first | done | with_reducible rfl | exact ⟨rfl, rfl⟩), ?_⟩
    (try simp only [Act.put, List.setIfInBounds_toArray, List.set_cons_zero, List.set_cons_succ])
    refine onlyAny (i := 10) (by simp only [List.getElem?_toArray, List.getElem?_cons_succ, List.getElem?_cons_zero] <;> rfl) (by kernel_rfl) (by rfl) (by go_simp; (first | done | with_reducible rfl | exact ⟨rfl, rfl⟩)) ?_
    (try simp only [Act.put, List.setIfInBounds_toArray, List.set_cons_zero, List.set_cons_succ])
    refine wpAny_done (by kernel_rfl) ?_ _
    clear ckh0_0 ckh0_1 ckh0_2 fkh0_0 fkh0_1 fkh0_2
    generalize hw31 : World.setCell _ _ _ = w31
    have z31 : w30.heap.size ≤ w31.heap.size := by rw [← hw31]; simp
    have B31 : Below w.heap.size w w31 := by rw [← hw31]; repeat (with_reducible (first | assumption | exact Below.refl _ _ | refine Below.alloc ?_ (by first | omega | (simp; done) | (simp; omega)) _ | refine Below.setCell ?_ (by first | omega | (simp; done) | (simp; omega)) _ | refine Below.drew ?_ | refine below_drewN ?_ _))
    have hK : ∀ k, k ≠ gkh0 → k < w30.heap.size → w31.heap[k]? = w30.heap[k]? := by
      intro k h0 _; rw [← hw31]
      repeat (first | rfl | refine (Below.heap_setCell _ _ _ _ (by first | exact h0)).trans ?_)
    have rw0_ := rw0.keepBlock z31 (fun k h1 h2 => hK k (by omega) (by have := rw0.2.1; omega))
    clear rw0; have rw0 := rw0_; clear rw0_
    have rg0_ := rg0.keepBlock z31 (fun k h1 h2 => hK k (by omega) (by have := rg0.2.1; omega))
    clear rg0; have rg0 := rg0_; clear rg0_
    have rtc_ := rtc.keepBlock z31 (fun k h1 h2 => hK k (by omega) (by have := rtc.2.1; omega))
    clear rtc; have rtc := rtc_; clear rtc_
    have rh0_ := rh0.keepBlock z31 (fun k h1 h2 => hK k (by omega) (by have := rh0.2.1; omega))
    clear rh0; have rh0 := rh0_; clear rh0_
    have pc_ : Box w31 (w.heap.size) #[(.slice cA0 cn0 cc0), (.slice cA1 cn1 cc1)] 63 := (by rw [← hw31]; exact (((pc.far (by omega)).far (by omega)).far (by omega)))
    clear pc; have pc := pc_; clear pc_
    have pt_ : Box w31 (w.heap.size + 1) #[.int .i64 tI0, .int .i64 tI1] 69 := (by rw [← hw31]; exact (((pt.far (by omega)).far (by omega)).far (by omega)))
    clear pt; have pt := pt_; clear pt_
    have kw0_ : Box w31 (gkw0) #[.int .i64 (garD cL0 cL1 tI0 tI1), (.slice w0A0 w0n0 w0c0), (.slice w0A1 w0n1 w0c1)] 33 := (by rw [← hw31]; exact (((kw0.far (by omega)).far (by omega)).far (by omega)))
    clear kw0; have kw0 := kw0_; clear kw0_
    have kg0_ : Box w31 (gkg0) #[.int .i64 (garD cL0 cL1 tI0 tI1), (.slice g0A0 g0n0 g0c0), (.slice g0A1 g0n1 g0c1)] 33 := (by rw [← hw31]; exact (((kg0.far (by omega)).far (by omega)).far (by omega)))
    clear kg0; have kg0 := kg0_; clear kg0_
    have kh0_ : Box w31 (gkh0) #[.int .i64 (garD cL0 cL1 tI0 tI1), (.slice h0A0 h0n0 h0c0), (.slice h0A1 h0n1 h0c1)] 33 := (by rw [← hw31]; exact (((kh0.setAt (i := 0) (v := .int .i64 (garD cL0 cL1 tI0 tI1)) (ds := #[.int .i64 (garD cL0 cL1 tI0 tI1), .slice none 0 0, .slice none 0 0]) (by simp)).setAt (i := 1) (v := (.slice h0A0 h0n0 h0c0)) (ds := #[.int .i64 (garD cL0 cL1 tI0 tI1), (.slice h0A0 h0n0 h0c0), .slice none 0 0]) (by simp)).setAt (i := 2) (v := (.slice h0A1 h0n1 h0c1)) (ds := #[.int .i64 (garD cL0 cL1 tI0 tI1), (.slice h0A0 h0n0 h0c0), (.slice h0A1 h0n1 h0c1)]) (by simp)))
    clear kh0; have kh0 := kh0_; clear kh0_
    clear hw31 hK
    obtain ⟨ckh0_0, ckh0_1, ckh0_2, fkh0_0, fkh0_1, fkh0_2⟩ := kh0.three
    have l_kh0_0 : gkh0 < w31.heap.size := by omega
    obtain ⟨ckw0_0, ckw0_1, ckw0_2, fkw0_0, fkw0_1, fkw0_2⟩ := kw0.three
    have l_kw0_0 : gkw0 < w31.heap.size := by omega
    go_wp2_with fail
    refine (eqGarbled_L (garD cL0 cL1 tI0 tI1) rh0.rd rw0.rd rL0_0n rL0_1n).mono ?_
    rintro e w32 ⟨rfl, b32⟩
    clear ckh0_0 ckh0_1 ckh0_2 fkh0_0 fkh0_1 fkh0_2 l_kh0_0 ckw0_0 ckw0_1 ckw0_2 fkw0_0 fkw0_1 fkw0_2 l_kw0_0
    have z32 := b32.size
    try simp only [World.size_alloc, World.size_setCell, size_drew] at z32
    have B32 : Below w.heap.size w w32 := Below.t b32
    have rw0_ := rw0.below b32
    clear rw0; have rw0 := rw0_; clear rw0_
    have rg0_ := rg0.below b32
    clear rg0; have rg0 := rg0_; clear rg0_
    have rh0_ := rh0.below b32
    clear rh0; have rh0 := rh0_; clear rh0_
    have pc_ : Box w32 (w.heap.size) #[(.slice cA0 cn0 cc0), (.slice cA1 cn1 cc1)] 63 := pc.below b32 (by first | omega | (simp [size_drew]; done) | (simp [size_drew]; omega))
    clear pc; have pc := pc_; clear pc_
    have pt_ : Box w32 (w.heap.size + 1) #[.int .i64 tI0, .int .i64 tI1] 69 := pt.below b32 (by first | omega | (simp [size_drew]; done) | (simp [size_drew]; omega))
    clear pt; have pt := pt_; clear pt_
    have kw0_ : Box w32 (gkw0) #[.int .i64 (garD cL0 cL1 tI0 tI1), (.slice w0A0 w0n0 w0c0), (.slice w0A1 w0n1 w0c1)] 33 := kw0.below b32 (by first | omega | (simp [size_drew]; done) | (simp [size_drew]; omega))
    clear kw0; have kw0 := kw0_; clear kw0_
    have kg0_ : Box w32 (gkg0) #[.int .i64 (garD cL0 cL1 tI0 tI1), (.slice g0A0 g0n0 g0c0), (.slice g0A1 g0n1 g0c1)] 33 := kg0.below b32 (by first | omega | (simp [size_drew]; done) | (simp [size_drew]; omega))
    clear kg0; have kg0 := kg0_; clear kg0_
    have kh0_ : Box w32 (gkh0) #[.int .i64 (garD cL0 cL1 tI0 tI1), (.slice h0A0 h0n0 h0c0), (.slice h0A1 h0n1 h0c1)] 33 := kh0.below b32 (by first | omega | (simp [size_drew]; done) | (simp [size_drew]; omega))
    clear kh0; have kh0 := kh0_; clear kh0_
    obtain ⟨ckg0_0, ckg0_1, ckg0_2, fkg0_0, fkg0_1, fkg0_2⟩ := kg0.three
    have l_kg0_0 : gkg0 < w32.heap.size := by omega
    go_wp2_with fail
    refine (heldGarbled_L (garZ cL0 cL1 tI0 tI1).length (garT cL0 cL1 tI0 tI1).length (garD cL0 cL1 tI0 tI1) (1) _ rg0.rd (by first | omega | (simp [size_drew]; done) | (simp [size_drew]; omega)) (by omega) rL0_0n rL0_1n).mono ?_
    rintro e w33 ⟨rfl, b33⟩
    clear ckg0_0 ckg0_1 ckg0_2 fkg0_0 fkg0_1 fkg0_2 l_kg0_0
    have z33 := b33.size
    try simp only [World.size_alloc, World.size_setCell, size_drew] at z33
    have B33 : Below w.heap.size w w33 := Below.t b33
    have rw0_ := rw0.below b33
    clear rw0; have rw0 := rw0_; clear rw0_
    have rg0_ := rg0.below b33
    clear rg0; have rg0 := rg0_; clear rg0_
    have rh0_ := rh0.below b33
    clear rh0; have rh0 := rh0_; clear rh0_
    have pc_ : Box w33 (w.heap.size) #[(.slice cA0 cn0 cc0), (.slice cA1 cn1 cc1)] 63 := pc.below b33 (by first | omega | (simp [size_drew]; done) | (simp [size_drew]; omega))
    clear pc; have pc := pc_; clear pc_
    have pt_ : Box w33 (w.heap.size + 1) #[.int .i64 tI0, .int .i64 tI1] 69 := pt.below b33 (by first | omega | (simp [size_drew]; done) | (simp [size_drew]; omega))
    clear pt; have pt := pt_; clear pt_
    have kw0_ : Box w33 (gkw0) #[.int .i64 (garD cL0 cL1 tI0 tI1), (.slice w0A0 w0n0 w0c0), (.slice w0A1 w0n1 w0c1)] 33 := kw0.below b33 (by first | omega | (simp [size_drew]; done) | (simp [size_drew]; omega))
    clear kw0; have kw0 := kw0_; clear kw0_
    have kg0_ : Box w33 (gkg0) #[.int .i64 (garD cL0 cL1 tI0 tI1), (.slice g0A0 g0n0 g0c0), (.slice g0A1 g0n1 g0c1)] 33 := kg0.below b33 (by first | omega | (simp [size_drew]; done) | (simp [size_drew]; omega))
    clear kg0; have kg0 := kg0_; clear kg0_
    have kh0_ : Box w33 (gkh0) #[.int .i64 (garD cL0 cL1 tI0 tI1), (.slice h0A0 h0n0 h0c0), (.slice h0A1 h0n1 h0c1)] 33 := kh0.below b33 (by first | omega | (simp [size_drew]; done) | (simp [size_drew]; omega))
    clear kh0; have kh0 := kh0_; clear kh0_
    go_wp2_with fail
    go_ret
    exact ⟨rfl, B33⟩
  · skip
    go_enter Try.func19, Try.ntmps19
    go_wp2_with fail
    refine (szCircuit_no cL0h.b cL1h.b (1048576) _ (by first | rfl | simp) (by omega) (by omega)).mono ?_
    rintro e w1 ⟨rfl, b1⟩
    have z1 := b1.size
    try simp only [World.size_alloc, World.size_setCell, size_drew] at z1
    have B1 : Below w.heap.size w w1 := Below.t b1
    have pc_ : Box w1 (w.heap.size) #[(.slice cA0 cn0 cc0), (.slice cA1 cn1 cc1)] 63 := ((Box.new (g := w.heap.size) _ #[(.slice cA0 cn0 cc0), (.slice cA1 cn1 cc1)] 63 (by simp)).alloc _).below b1 (by first | omega | (simp [size_drew]; done) | (simp [size_drew]; omega))
    have pc := pc_; clear pc_
    have pt_ : Box w1 (w.heap.size + 1) #[.int .i64 tI0, .int .i64 tI1] 69 := (Box.new (g := w.heap.size + 1) _ #[.int .i64 tI0, .int .i64 tI1] 69 (by simp)).below b1 (by first | omega | (simp [size_drew]; done) | (simp [size_drew]; omega))
    have pt := pt_; clear pt_
    go_wp2
    go_ret
    exact ⟨rfl, B1⟩
end Go.Proofs.Ytodnahpegecpiaa

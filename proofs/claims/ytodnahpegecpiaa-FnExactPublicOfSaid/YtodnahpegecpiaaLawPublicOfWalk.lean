/- The walk of the law FnExactPublicOf. Printed by laws2.py. -/
import Derived.Test.YtodnahpegecpiaaPuo
import Derived.Test.YtodnahpegecpiaaHk
import Derived.Test.YtodnahpegecpiaaAuto
namespace Go.Proofs.Ytodnahpegecpiaa
set_option linter.unusedSimpArgs false
set_option linter.unusedVariables false
open Go.RowKit
set_option maxRecDepth 100000 in
set_option maxHeartbeats 2000000 in
theorem walk_FnExactPublicOf (cL0V : Value) (cL0 : List (Int × Int × Int)) (cL1V : Value) (cL1 : List Int) (gI0 : Int) (gL1V : Value) (gL1 : List Int) (gL2V : Value) (gL2 : List Int) (w : World) (cL0h : RdG0 w cL0V cL0) (cL1h : Rd0 w cL1V cL1) (gL1h : Rd0 w gL1V gL1) (gL2h : Rd0 w gL2V gL2) :
    Calls Try.prog 15 #[.agg #[cL0V, cL1V], .agg #[.int .i64 gI0, gL1V, gL2V]] w fun e w' => e = .returned (.bool true) ∧ Below w.heap.size w w' := by
  obtain ⟨cA0, cn0, cc0, rfl, cL0x, cL0I⟩ := cL0h
  have cL0h : RdG0 w (.slice cA0 cn0 cc0) cL0 := ⟨_, _, _, rfl, cL0x, cL0I⟩
  obtain ⟨cA1, cn1, cc1, rfl, cL1x, cL1I⟩ := cL1h
  have cL1h : Rd0 w (.slice cA1 cn1 cc1) cL1 := ⟨_, _, _, rfl, cL1x, cL1I⟩
  obtain ⟨gA1, gn1, gc1, rfl, gL1x, gL1I⟩ := gL1h
  have gL1h : Rd0 w (.slice gA1 gn1 gc1) gL1 := ⟨_, _, _, rfl, gL1x, gL1I⟩
  obtain ⟨gA2, gn2, gc2, rfl, gL2x, gL2I⟩ := gL2h
  have gL2h : Rd0 w (.slice gA2 gn2 gc2) gL2 := ⟨_, _, _, rfl, gL2x, gL2I⟩
  by_cases sz0 : (cL0.length + cL1.length) ≤ 1048576
  · skip
    by_cases sz1 : (cL0.length + cL1.length) + (gL1.length + gL2.length) ≤ 1048576
    · skip
      have cL0n : cL0.length ≤ 1048576 := by omega
      have cL1n : cL1.length ≤ 1048576 := by omega
      have gL1n : gL1.length ≤ 1048576 := by omega
      have gL2n : gL2.length ≤ 1048576 := by omega
      have rL0_0n : (puT cL0 cL1 gI0 gL1 gL2).length ≤ 1048576 := Nat.le_trans (puT_len _ _ _ _ _) gL2n
      have rL0_1n : (puC cL0 cL1 gI0 gL1 gL2).length ≤ 1048576 := Nat.le_trans (puC_len _ _ _ _ _) cL0n
      have rL0_2n : (puD cL0 cL1 gI0 gL1 gL2).length ≤ 1048576 := Nat.le_trans (puD_len _ _ _ _ _) cL1n
      go_enter Try.func15, Try.ntmps15
      go_wp2_with fail
      refine (szCircuit_yes cL0h.b cL1h.b (1048576) _ (by first | rfl | simp) (by omega) (by omega)).mono ?_
      rintro e w1 ⟨rfl, b1⟩
      have z1 := b1.size
      try simp only [World.size_alloc, World.size_setCell, size_drew] at z1
      have B1 : Below w.heap.size w w1 := Below.t b1
      have pc_ : Box w1 (w.heap.size) #[(.slice cA0 cn0 cc0), (.slice cA1 cn1 cc1)] 63 := ((Box.new (g := w.heap.size) _ #[(.slice cA0 cn0 cc0), (.slice cA1 cn1 cc1)] 63 (by simp)).alloc _).below b1 (by first | omega | (simp [size_drew]; done) | (simp [size_drew]; omega))
      have pc := pc_; clear pc_
      have pg_ : Box w1 (w.heap.size + 1) #[.int .i64 gI0, (.slice gA1 gn1 gc1), (.slice gA2 gn2 gc2)] 75 := (Box.new (g := w.heap.size + 1) _ #[.int .i64 gI0, (.slice gA1 gn1 gc1), (.slice gA2 gn2 gc2)] 75 (by simp)).below b1 (by first | omega | (simp [size_drew]; done) | (simp [size_drew]; omega))
      have pg := pg_; clear pg_
      obtain ⟨cpg_0, cpg_1, cpg_2, fpg_0, fpg_1, fpg_2⟩ := pg.three
      have l_pg_0 : w.heap.size + 1 < w1.heap.size := by omega
      go_wp2_with fail
      refine (szGarbled_yes gI0 gL1h.b gL2h.b (1048576 - (cL0.length + cL1.length)) _ (by first | rfl | simp) (by omega) (by omega)).mono ?_
      rintro e w2 ⟨rfl, b2⟩
      clear cpg_0 cpg_1 cpg_2 fpg_0 fpg_1 fpg_2 l_pg_0
      have z2 := b2.size
      try simp only [World.size_alloc, World.size_setCell, size_drew] at z2
      have B2 : Below w.heap.size w w2 := Below.t b2
      have pc_ : Box w2 (w.heap.size) #[(.slice cA0 cn0 cc0), (.slice cA1 cn1 cc1)] 63 := pc.below b2 (by first | omega | (simp [size_drew]; done) | (simp [size_drew]; omega))
      clear pc; have pc := pc_; clear pc_
      have pg_ : Box w2 (w.heap.size + 1) #[.int .i64 gI0, (.slice gA1 gn1 gc1), (.slice gA2 gn2 gc2)] 75 := pg.below b2 (by first | omega | (simp [size_drew]; done) | (simp [size_drew]; omega))
      clear pg; have pg := pg_; clear pg_
      obtain ⟨cpc_0, cpc_1, fpc_0, fpc_1⟩ := pc.two
      have l_pc_0 : w.heap.size < w2.heap.size := by omega
      obtain ⟨cpg_0, cpg_1, cpg_2, fpg_0, fpg_1, fpg_2⟩ := pg.three
      have l_pg_0 : w.heap.size + 1 < w2.heap.size := by omega
      go_wp2_with fail
      clear cpc_0 cpc_1 fpc_0 fpc_1 l_pc_0 cpg_0 cpg_1 cpg_2 fpg_0 fpg_1 fpg_2 l_pg_0
      refine wp_region_M [9] (w2.heap.size) 11 (S := fun W => Below w.heap.size w W ∧ Below w2.heap.size w2 W ∧ W.cell? ⟨w.heap.size, 0, none⟩ = some ((.slice cA0 cn0 cc0)) ∧ W.cell? ⟨w.heap.size, 1, none⟩ = some ((.slice cA1 cn1 cc1)) ∧ W.cell? ⟨w.heap.size + 1, 0, none⟩ = some (.int .i64 gI0) ∧ W.cell? ⟨w.heap.size + 1, 1, none⟩ = some ((.slice gA1 gn1 gc1)) ∧ W.cell? ⟨w.heap.size + 1, 2, none⟩ = some ((.slice gA2 gn2 gc2))) (by kernel_rfl) (by rfl) (fun W hW => ⟨Below.trans (b := _) (by repeat (with_reducible (first | assumption | exact Below.refl _ _ | refine Below.alloc ?_ (by first | omega | (simp; done) | (simp; omega)) _ | refine Below.setCell ?_ (by first | omega | (simp; done) | (simp; omega)) _ | refine Below.drew ?_ | refine below_drewN ?_ _))) (Below.mono hW (by first | omega | (simp [size_drew]; done) | (simp [size_drew]; omega))), Below.trans (b := _) (by repeat (with_reducible (first | assumption | exact Below.refl _ _ | refine Below.alloc ?_ (by first | omega | (simp; done) | (simp; omega)) _ | refine Below.setCell ?_ (by first | omega | (simp; done) | (simp; omega)) _ | refine Below.drew ?_ | refine below_drewN ?_ _))) (Below.mono hW (by first | omega | (simp [size_drew]; done) | (simp [size_drew]; omega))), (Box.below pc.drew hW (by first | omega | (simp [size_drew]; done) | (simp [size_drew]; omega))).two.1, (Box.below pc.drew hW (by first | omega | (simp [size_drew]; done) | (simp [size_drew]; omega))).two.2.1, (Box.below pg.drew hW (by first | omega | (simp [size_drew]; done) | (simp [size_drew]; omega))).three.1, (Box.below pg.drew hW (by first | omega | (simp [size_drew]; done) | (simp [size_drew]; omega))).three.2.1, (Box.below pg.drew hW (by first | omega | (simp [size_drew]; done) | (simp [size_drew]; omega))).three.2.2.1⟩) (by first | omega | (simp [size_drew]; done) | (simp [size_drew]; omega)) (fun hS hG => ?_)
      (try dsimp only at hS)
      refine pendM 8 6 #[.slice none 0 0, .slice none 0 0, .slice none 0 0] 37 (by simp only [List.getElem?_toArray, List.getElem?_cons_succ, List.getElem?_cons_zero] <;> rfl) (by kernel_rfl) (by exact fun _ _ _ _ h => h) (by intro a W; unfold ptr; go_simp; (first | done | rfl)) hG ?_
      (refine tkM 0 hG hS ?_; (try simp only [Act.put, List.setIfInBounds_toArray, List.set_cons_zero, List.set_cons_succ]))
      (refine tkM 2 hG hS ?_; (try simp only [Act.put, List.setIfInBounds_toArray, List.set_cons_zero, List.set_cons_succ]))
      refine callM hG (i := 1) (by simp only [List.getElem?_toArray, List.getElem?_cons_succ, List.getElem?_cons_zero] <;> rfl) (by kernel_rfl) (by rfl) (by rfl) (by intro W hW; have hSw := hS W hW; (try dsimp only at hSw); go_simp; (first | done | with_reducible rfl | exact ⟨rfl, rfl⟩)) ?_
      intro w3 b3
      have B3 : Below w.heap.size w w3 := (hS w3 b3).1
      have z3 := Below.size b3
      (try simp only [World.size_alloc, World.size_setCell, size_drew] at z3)
      have pc_ : Box w3 (w.heap.size) #[(.slice cA0 cn0 cc0), (.slice cA1 cn1 cc1)] 63 := (Box.b pc.drew b3)
      clear pc; have pc := pc_; clear pc_
      have pg_ : Box w3 (w.heap.size + 1) #[.int .i64 gI0, (.slice gA1 gn1 gc1), (.slice gA2 gn2 gc2)] 75 := (Box.b pg.drew b3)
      clear pg; have pg := pg_; clear pg_
      clear hS hG
      go_at_call 49
      refine (toCircuit_L (RdL.cons (d := .gates cL0) cL0h.rd.b (RdL.cons (d := .ints cL1) cL1h.rd.b RdL.nil)) cL0n cL1n).mono ?_
      rintro e w4 ⟨scA0, scn0, scc0, scA1, scn1, scc1, rfl, rsc, b4⟩
      refine ⟨_, rfl, b4, fun hG => ?_⟩
      have z4 := Below.size b4
      have B4 : Below w.heap.size w w4 := Below.t b4
      have pc_ : Box w4 (w.heap.size) #[(.slice cA0 cn0 cc0), (.slice cA1 cn1 cc1)] 63 := (Box.b pc b4)
      clear pc; have pc := pc_; clear pc_
      have pg_ : Box w4 (w.heap.size + 1) #[.int .i64 gI0, (.slice gA1 gn1 gc1), (.slice gA2 gn2 gc2)] 75 := (Box.b pg b4)
      clear pg; have pg := pg_; clear pg_
      (try simp only [Act.put, List.setIfInBounds_toArray, List.set_cons_zero, List.set_cons_succ])
      have hS : ∀ W, Later w4 W → (Below w.heap.size w W ∧ Below w4.heap.size w4 W ∧ W.cell? ⟨w.heap.size, 0, none⟩ = some ((.slice cA0 cn0 cc0)) ∧ W.cell? ⟨w.heap.size, 1, none⟩ = some ((.slice cA1 cn1 cc1)) ∧ W.cell? ⟨w.heap.size + 1, 0, none⟩ = some (.int .i64 gI0) ∧ W.cell? ⟨w.heap.size + 1, 1, none⟩ = some ((.slice gA1 gn1 gc1)) ∧ W.cell? ⟨w.heap.size + 1, 2, none⟩ = some ((.slice gA2 gn2 gc2))) := fun W hW => ⟨Below.trans (b := _) (by repeat (with_reducible (first | assumption | exact Below.refl _ _ | refine Below.alloc ?_ (by first | omega | (simp; done) | (simp; omega)) _ | refine Below.setCell ?_ (by first | omega | (simp; done) | (simp; omega)) _ | refine Below.drew ?_ | refine below_drewN ?_ _))) (Below.mono hW (by first | omega | (simp [size_drew]; done) | (simp [size_drew]; omega))), Below.trans (b := _) (by repeat (with_reducible (first | assumption | exact Below.refl _ _ | refine Below.alloc ?_ (by first | omega | (simp; done) | (simp; omega)) _ | refine Below.setCell ?_ (by first | omega | (simp; done) | (simp; omega)) _ | refine Below.drew ?_ | refine below_drewN ?_ _))) (Below.mono hW (by first | omega | (simp [size_drew]; done) | (simp [size_drew]; omega))), (Box.below pc hW (by first | omega | (simp [size_drew]; done) | (simp [size_drew]; omega))).two.1, (Box.below pc hW (by first | omega | (simp [size_drew]; done) | (simp [size_drew]; omega))).two.2.1, (Box.below pg hW (by first | omega | (simp [size_drew]; done) | (simp [size_drew]; omega))).three.1, (Box.below pg hW (by first | omega | (simp [size_drew]; done) | (simp [size_drew]; omega))).three.2.1, (Box.below pg hW (by first | omega | (simp [size_drew]; done) | (simp [size_drew]; omega))).three.2.2.1⟩
      refine callM hG (i := 3) (by simp only [List.getElem?_toArray, List.getElem?_cons_succ, List.getElem?_cons_zero] <;> rfl) (by kernel_rfl) (by rfl) (by rfl) (by intro W hW; have hSw := hS W hW; (try dsimp only at hSw); go_simp; (first | done | with_reducible rfl | exact ⟨rfl, rfl⟩)) ?_
      intro w5 b5
      have B5 : Below w.heap.size w w5 := (hS w5 b5).1
      have z5 := Below.size b5
      (try simp only [World.size_alloc, World.size_setCell, size_drew] at z5)
      have rsc_ := (rsc.below b5)
      clear rsc; have rsc := rsc_; clear rsc_
      have pc_ : Box w5 (w.heap.size) #[(.slice cA0 cn0 cc0), (.slice cA1 cn1 cc1)] 63 := (Box.b pc b5)
      clear pc; have pc := pc_; clear pc_
      have pg_ : Box w5 (w.heap.size + 1) #[.int .i64 gI0, (.slice gA1 gn1 gc1), (.slice gA2 gn2 gc2)] 75 := (Box.b pg b5)
      clear pg; have pg := pg_; clear pg_
      clear hS hG
      go_at_call 59
      refine (toGarbled_L gI0 (RdL.cons (d := .ints gL1) gL1h.rd.b (RdL.cons (d := .ints gL2) gL2h.rd.b RdL.nil)) gL1n gL2n).mono ?_
      rintro e w6 ⟨sgA1, sgn1, sgc1, sgA2, sgn2, sgc2, rfl, rsg, b6⟩
      refine ⟨_, rfl, b6, fun hG => ?_⟩
      have z6 := Below.size b6
      have B6 : Below w.heap.size w w6 := Below.t b6
      have rsc_ := (rsc.below b6)
      clear rsc; have rsc := rsc_; clear rsc_
      have pc_ : Box w6 (w.heap.size) #[(.slice cA0 cn0 cc0), (.slice cA1 cn1 cc1)] 63 := (Box.b pc b6)
      clear pc; have pc := pc_; clear pc_
      have pg_ : Box w6 (w.heap.size + 1) #[.int .i64 gI0, (.slice gA1 gn1 gc1), (.slice gA2 gn2 gc2)] 75 := (Box.b pg b6)
      clear pg; have pg := pg_; clear pg_
      (try simp only [Act.put, List.setIfInBounds_toArray, List.set_cons_zero, List.set_cons_succ])
      have hS : ∀ W, Later w6 W → (Below w.heap.size w W ∧ Below w6.heap.size w6 W ∧ W.cell? ⟨w.heap.size, 0, none⟩ = some ((.slice cA0 cn0 cc0)) ∧ W.cell? ⟨w.heap.size, 1, none⟩ = some ((.slice cA1 cn1 cc1)) ∧ W.cell? ⟨w.heap.size + 1, 0, none⟩ = some (.int .i64 gI0) ∧ W.cell? ⟨w.heap.size + 1, 1, none⟩ = some ((.slice gA1 gn1 gc1)) ∧ W.cell? ⟨w.heap.size + 1, 2, none⟩ = some ((.slice gA2 gn2 gc2))) := fun W hW => ⟨Below.trans (b := _) (by repeat (with_reducible (first | assumption | exact Below.refl _ _ | refine Below.alloc ?_ (by first | omega | (simp; done) | (simp; omega)) _ | refine Below.setCell ?_ (by first | omega | (simp; done) | (simp; omega)) _ | refine Below.drew ?_ | refine below_drewN ?_ _))) (Below.mono hW (by first | omega | (simp [size_drew]; done) | (simp [size_drew]; omega))), Below.trans (b := _) (by repeat (with_reducible (first | assumption | exact Below.refl _ _ | refine Below.alloc ?_ (by first | omega | (simp; done) | (simp; omega)) _ | refine Below.setCell ?_ (by first | omega | (simp; done) | (simp; omega)) _ | refine Below.drew ?_ | refine below_drewN ?_ _))) (Below.mono hW (by first | omega | (simp [size_drew]; done) | (simp [size_drew]; omega))), (Box.below pc hW (by first | omega | (simp [size_drew]; done) | (simp [size_drew]; omega))).two.1, (Box.below pc hW (by first | omega | (simp [size_drew]; done) | (simp [size_drew]; omega))).two.2.1, (Box.below pg hW (by first | omega | (simp [size_drew]; done) | (simp [size_drew]; omega))).three.1, (Box.below pg hW (by first | omega | (simp [size_drew]; done) | (simp [size_drew]; omega))).three.2.1, (Box.below pg hW (by first | omega | (simp [size_drew]; done) | (simp [size_drew]; omega))).three.2.2.1⟩
      refine callM hG (i := 4) (by simp only [List.getElem?_toArray, List.getElem?_cons_succ, List.getElem?_cons_zero] <;> rfl) (by kernel_rfl) (by rfl) (by rfl) (by intro W hW; have hSw := hS W hW; (try dsimp only at hSw); go_simp; (first | done | with_reducible rfl | exact ⟨rfl, rfl⟩)) ?_
      intro w7 b7
      have B7 : Below w.heap.size w w7 := (hS w7 b7).1
      have z7 := Below.size b7
      (try simp only [World.size_alloc, World.size_setCell, size_drew] at z7)
      have rsc_ := (rsc.below b7)
      clear rsc; have rsc := rsc_; clear rsc_
      have rsg_ := (rsg.below b7)
      clear rsg; have rsg := rsg_; clear rsg_
      have pc_ : Box w7 (w.heap.size) #[(.slice cA0 cn0 cc0), (.slice cA1 cn1 cc1)] 63 := (Box.b pc b7)
      clear pc; have pc := pc_; clear pc_
      have pg_ : Box w7 (w.heap.size + 1) #[.int .i64 gI0, (.slice gA1 gn1 gc1), (.slice gA2 gn2 gc2)] 75 := (Box.b pg b7)
      clear pg; have pg := pg_; clear pg_
      clear hS hG
      go_at_call 71
      refine (sPublicOf_L rsc.rd cL0n cL1n gI0 rsg.rd gL1n gL2n).mono ?_
      rintro e w8 ⟨w0A0, w0n0, w0c0, w0A1, w0n1, w0c1, w0A2, w0n2, w0c2, rfl, rw0, b8⟩
      refine ⟨_, rfl, b8, fun hG => ?_⟩
      have z8 := Below.size b8
      have B8 : Below w.heap.size w w8 := Below.t b8
      have rsc_ := (rsc.below b8)
      clear rsc; have rsc := rsc_; clear rsc_
      have rsg_ := (rsg.below b8)
      clear rsg; have rsg := rsg_; clear rsg_
      have pc_ : Box w8 (w.heap.size) #[(.slice cA0 cn0 cc0), (.slice cA1 cn1 cc1)] 63 := (Box.b pc b8)
      clear pc; have pc := pc_; clear pc_
      have pg_ : Box w8 (w.heap.size + 1) #[.int .i64 gI0, (.slice gA1 gn1 gc1), (.slice gA2 gn2 gc2)] 75 := (Box.b pg b8)
      clear pg; have pg := pg_; clear pg_
      (try simp only [Act.put, List.setIfInBounds_toArray, List.set_cons_zero, List.set_cons_succ])
      have hS : ∀ W, Later w8 W → (Below w.heap.size w W ∧ Below w8.heap.size w8 W ∧ W.cell? ⟨w.heap.size, 0, none⟩ = some ((.slice cA0 cn0 cc0)) ∧ W.cell? ⟨w.heap.size, 1, none⟩ = some ((.slice cA1 cn1 cc1)) ∧ W.cell? ⟨w.heap.size + 1, 0, none⟩ = some (.int .i64 gI0) ∧ W.cell? ⟨w.heap.size + 1, 1, none⟩ = some ((.slice gA1 gn1 gc1)) ∧ W.cell? ⟨w.heap.size + 1, 2, none⟩ = some ((.slice gA2 gn2 gc2))) := fun W hW => ⟨Below.trans (b := _) (by repeat (with_reducible (first | assumption | exact Below.refl _ _ | refine Below.alloc ?_ (by first | omega | (simp; done) | (simp; omega)) _ | refine Below.setCell ?_ (by first | omega | (simp; done) | (simp; omega)) _ | refine Below.drew ?_ | refine below_drewN ?_ _))) (Below.mono hW (by first | omega | (simp [size_drew]; done) | (simp [size_drew]; omega))), Below.trans (b := _) (by repeat (with_reducible (first | assumption | exact Below.refl _ _ | refine Below.alloc ?_ (by first | omega | (simp; done) | (simp; omega)) _ | refine Below.setCell ?_ (by first | omega | (simp; done) | (simp; omega)) _ | refine Below.drew ?_ | refine below_drewN ?_ _))) (Below.mono hW (by first | omega | (simp [size_drew]; done) | (simp [size_drew]; omega))), (Box.below pc hW (by first | omega | (simp [size_drew]; done) | (simp [size_drew]; omega))).two.1, (Box.below pc hW (by first | omega | (simp [size_drew]; done) | (simp [size_drew]; omega))).two.2.1, (Box.below pg hW (by first | omega | (simp [size_drew]; done) | (simp [size_drew]; omega))).three.1, (Box.below pg hW (by first | omega | (simp [size_drew]; done) | (simp [size_drew]; omega))).three.2.1, (Box.below pg hW (by first | omega | (simp [size_drew]; done) | (simp [size_drew]; omega))).three.2.2.1⟩
      (refine tkM 5 hG hS ?_; (try simp only [Act.put, List.setIfInBounds_toArray, List.set_cons_zero, List.set_cons_succ]))
      (refine tkM 6 hG hS ?_; (try simp only [Act.put, List.setIfInBounds_toArray, List.set_cons_zero, List.set_cons_succ]))
      (refine tkY 7 hG ?_; (try simp only [Act.put, List.setIfInBounds_toArray, List.set_cons_zero, List.set_cons_succ]))
      refine storeM (z := 9) (by simp only [List.getElem?_toArray, List.getElem?_cons_succ, List.getElem?_cons_zero] <;> rfl) (by kernel_rfl) (by rfl) (by rfl) ?_
      intro w9 b9
      have B9 : Below w.heap.size w w9 := (hS w9 b9).1
      have z9 := Below.size b9
      (try simp only [World.size_alloc, World.size_setCell, size_drew] at z9)
      have rsc_ := (rsc.below b9)
      clear rsc; have rsc := rsc_; clear rsc_
      have rsg_ := (rsg.below b9)
      clear rsg; have rsg := rsg_; clear rsg_
      have rw0_ := (rw0.below b9)
      clear rw0; have rw0 := rw0_; clear rw0_
      have pc_ : Box w9 (w.heap.size) #[(.slice cA0 cn0 cc0), (.slice cA1 cn1 cc1)] 63 := (Box.b pc b9)
      clear pc; have pc := pc_; clear pc_
      have pg_ : Box w9 (w.heap.size + 1) #[.int .i64 gI0, (.slice gA1 gn1 gc1), (.slice gA2 gn2 gc2)] 75 := (Box.b pg b9)
      clear pg; have pg := pg_; clear pg_
      clear hS hG
      refine Zc.cons fun gkw0 kw0 nkw0 => ?_
      have nkw0_0 := nkw0 (w7.heap.size, w8.heap.size) (by simp)
      dsimp only at nkw0_0 kw0
      have nkw0_1 := nkw0 (w5.heap.size, w6.heap.size) (by simp)
      dsimp only at nkw0_1 kw0
      have nkw0_2 := nkw0 (w3.heap.size, w4.heap.size) (by simp)
      dsimp only at nkw0_2 kw0
      have nkw0_3 := nkw0 (0, w2.heap.size) (by simp)
      dsimp only at nkw0_3 kw0
      clear nkw0
      refine Zc.nil ?_
      (try unfold ptr)
      (try simp only [Act.put, List.setIfInBounds_toArray, List.set_cons_zero, List.set_cons_succ])
      have lkw0 := kw0.lt
      obtain ⟨ckw0_0, ckw0_1, ckw0_2, fkw0_0, fkw0_1, fkw0_2⟩ := kw0.three
      refine ⟨_, by go_simp; (first | done | with_reducible rfl | exact ⟨rfl, rfl⟩), ?_⟩
      (try simp only [Act.put, List.setIfInBounds_toArray, List.set_cons_zero, List.set_cons_succ])
      refine onlyAny (i := 10) (by simp only [List.getElem?_toArray, List.getElem?_cons_succ, List.getElem?_cons_zero] <;> rfl) (by kernel_rfl) (by rfl) (by go_simp; (first | done | with_reducible rfl | exact ⟨rfl, rfl⟩)) ?_
      (try simp only [Act.put, List.setIfInBounds_toArray, List.set_cons_zero, List.set_cons_succ])
      refine wpAny_done (by kernel_rfl) ?_ _
      clear ckw0_0 ckw0_1 ckw0_2 fkw0_0 fkw0_1 fkw0_2
      generalize hw10 : World.setCell _ _ _ = w10
      have z10 : w9.heap.size ≤ w10.heap.size := by rw [← hw10]; simp
      have B10 : Below w.heap.size w w10 := by rw [← hw10]; repeat (with_reducible (first | assumption | exact Below.refl _ _ | refine Below.alloc ?_ (by first | omega | (simp; done) | (simp; omega)) _ | refine Below.setCell ?_ (by first | omega | (simp; done) | (simp; omega)) _ | refine Below.drew ?_ | refine below_drewN ?_ _))
      have hK : ∀ k, k ≠ gkw0 → k < w9.heap.size → w10.heap[k]? = w9.heap[k]? := by
        intro k h0 _; rw [← hw10]
        repeat (first | rfl | refine (Below.heap_setCell _ _ _ _ (by first | exact h0)).trans ?_)
      have rsc_ := rsc.keepBlock z10 (fun k h1 h2 => hK k (by omega) (by have := rsc.2.1; omega))
      clear rsc; have rsc := rsc_; clear rsc_
      have rsg_ := rsg.keepBlock z10 (fun k h1 h2 => hK k (by omega) (by have := rsg.2.1; omega))
      clear rsg; have rsg := rsg_; clear rsg_
      have rw0_ := rw0.keepBlock z10 (fun k h1 h2 => hK k (by omega) (by have := rw0.2.1; omega))
      clear rw0; have rw0 := rw0_; clear rw0_
      have pc_ : Box w10 (w.heap.size) #[(.slice cA0 cn0 cc0), (.slice cA1 cn1 cc1)] 63 := (by rw [← hw10]; exact (((pc.far (by omega)).far (by omega)).far (by omega)))
      clear pc; have pc := pc_; clear pc_
      have pg_ : Box w10 (w.heap.size + 1) #[.int .i64 gI0, (.slice gA1 gn1 gc1), (.slice gA2 gn2 gc2)] 75 := (by rw [← hw10]; exact (((pg.far (by omega)).far (by omega)).far (by omega)))
      clear pg; have pg := pg_; clear pg_
      have kw0_ : Box w10 (gkw0) #[(.slice w0A0 w0n0 w0c0), (.slice w0A1 w0n1 w0c1), (.slice w0A2 w0n2 w0c2)] 37 := (by rw [← hw10]; exact (((kw0.setAt (i := 0) (v := (.slice w0A0 w0n0 w0c0)) (ds := #[(.slice w0A0 w0n0 w0c0), .slice none 0 0, .slice none 0 0]) (by simp)).setAt (i := 1) (v := (.slice w0A1 w0n1 w0c1)) (ds := #[(.slice w0A0 w0n0 w0c0), (.slice w0A1 w0n1 w0c1), .slice none 0 0]) (by simp)).setAt (i := 2) (v := (.slice w0A2 w0n2 w0c2)) (ds := #[(.slice w0A0 w0n0 w0c0), (.slice w0A1 w0n1 w0c1), (.slice w0A2 w0n2 w0c2)]) (by simp)))
      clear kw0; have kw0 := kw0_; clear kw0_
      clear hw10 hK
      obtain ⟨cpc_0, cpc_1, fpc_0, fpc_1⟩ := pc.two
      have l_pc_0 : w.heap.size < w10.heap.size := by omega
      go_wp2_with fail
      refine (toCircuit_L (RdL.cons (d := .gates cL0) cL0h.rd.b (RdL.cons (d := .ints cL1) cL1h.rd.b RdL.nil)) cL0n cL1n).mono ?_
      rintro e w11 ⟨xcA0, xcn0, xcc0, xcA1, xcn1, xcc1, rfl, rxc, b11⟩
      clear cpc_0 cpc_1 fpc_0 fpc_1 l_pc_0
      have z11 := b11.size
      try simp only [World.size_alloc, World.size_setCell, size_drew] at z11
      have B11 : Below w.heap.size w w11 := Below.t b11
      have rw0_ := rw0.below b11
      clear rw0; have rw0 := rw0_; clear rw0_
      have pc_ : Box w11 (w.heap.size) #[(.slice cA0 cn0 cc0), (.slice cA1 cn1 cc1)] 63 := pc.below b11 (by first | omega | (simp [size_drew]; done) | (simp [size_drew]; omega))
      clear pc; have pc := pc_; clear pc_
      have pg_ : Box w11 (w.heap.size + 1) #[.int .i64 gI0, (.slice gA1 gn1 gc1), (.slice gA2 gn2 gc2)] 75 := pg.below b11 (by first | omega | (simp [size_drew]; done) | (simp [size_drew]; omega))
      clear pg; have pg := pg_; clear pg_
      have kw0_ : Box w11 (gkw0) #[(.slice w0A0 w0n0 w0c0), (.slice w0A1 w0n1 w0c1), (.slice w0A2 w0n2 w0c2)] 37 := kw0.below b11 (by first | omega | (simp [size_drew]; done) | (simp [size_drew]; omega))
      clear kw0; have kw0 := kw0_; clear kw0_
      try simp only [World.size_alloc, World.size_setCell, size_drew] at rxc
      obtain ⟨cpg_0, cpg_1, cpg_2, fpg_0, fpg_1, fpg_2⟩ := pg.three
      have l_pg_0 : w.heap.size + 1 < w11.heap.size := by omega
      have l_pg_1 : w.heap.size + 1 < w11.heap.size + 1 := by omega
      go_wp2_with fail
      refine (toGarbled_L gI0 (RdL.cons (d := .ints gL1) gL1h.rd.b (RdL.cons (d := .ints gL2) gL2h.rd.b RdL.nil)) gL1n gL2n).mono ?_
      rintro e w12 ⟨xgA1, xgn1, xgc1, xgA2, xgn2, xgc2, rfl, rxg, b12⟩
      clear cpg_0 cpg_1 cpg_2 fpg_0 fpg_1 fpg_2 l_pg_0 l_pg_1
      have z12 := b12.size
      try simp only [World.size_alloc, World.size_setCell, size_drew] at z12
      have B12 : Below w.heap.size w w12 := Below.t b12
      have rw0_ := (rw0.alloc _).below b12
      clear rw0; have rw0 := rw0_; clear rw0_
      have rxc_ := (rxc.alloc _).below b12
      clear rxc; have rxc := rxc_; clear rxc_
      have pc_ : Box w12 (w.heap.size) #[(.slice cA0 cn0 cc0), (.slice cA1 cn1 cc1)] 63 := (pc.alloc _).below b12 (by first | omega | (simp [size_drew]; done) | (simp [size_drew]; omega))
      clear pc; have pc := pc_; clear pc_
      have pg_ : Box w12 (w.heap.size + 1) #[.int .i64 gI0, (.slice gA1 gn1 gc1), (.slice gA2 gn2 gc2)] 75 := (pg.alloc _).below b12 (by first | omega | (simp [size_drew]; done) | (simp [size_drew]; omega))
      clear pg; have pg := pg_; clear pg_
      have kw0_ : Box w12 (gkw0) #[(.slice w0A0 w0n0 w0c0), (.slice w0A1 w0n1 w0c1), (.slice w0A2 w0n2 w0c2)] 37 := (kw0.alloc _).below b12 (by first | omega | (simp [size_drew]; done) | (simp [size_drew]; omega))
      clear kw0; have kw0 := kw0_; clear kw0_
      have xc_ : Box w12 (w11.heap.size) #[(.slice xcA0 xcn0 xcc0), (.slice xcA1 xcn1 xcc1)] 27 := (Box.new (g := w11.heap.size) _ #[(.slice xcA0 xcn0 xcc0), (.slice xcA1 xcn1 xcc1)] 27 (by simp)).below b12 (by first | omega | (simp [size_drew]; done) | (simp [size_drew]; omega))
      have xc := xc_; clear xc_
      try simp only [World.size_alloc, World.size_setCell, size_drew] at rxg
      obtain ⟨cxc_0, cxc_1, fxc_0, fxc_1⟩ := xc.two
      have l_xc_0 : w11.heap.size < w12.heap.size := by omega
      have l_xc_1 : w11.heap.size < w12.heap.size + 1 := by omega
      go_wp2_with fail
      refine (iPublicOf_L (rxc.alloc _).rd cL0n cL1n gI0 (rxg.alloc _).rd gL1n gL2n).mono ?_
      rintro e w13 ⟨g0A0, g0n0, g0c0, g0A1, g0n1, g0c1, g0A2, g0n2, g0c2, rfl, rg0, b13⟩
      clear cxc_0 cxc_1 fxc_0 fxc_1 l_xc_0 l_xc_1
      have z13 := b13.size
      try simp only [World.size_alloc, World.size_setCell, size_drew] at z13
      have B13 : Below w.heap.size w w13 := Below.t b13
      have rw0_ := (rw0.alloc _).below b13
      clear rw0; have rw0 := rw0_; clear rw0_
      have rxc_ := (rxc.alloc _).below b13
      clear rxc; have rxc := rxc_; clear rxc_
      have rxg_ := (rxg.alloc _).below b13
      clear rxg; have rxg := rxg_; clear rxg_
      have pc_ : Box w13 (w.heap.size) #[(.slice cA0 cn0 cc0), (.slice cA1 cn1 cc1)] 63 := (pc.alloc _).below b13 (by first | omega | (simp [size_drew]; done) | (simp [size_drew]; omega))
      clear pc; have pc := pc_; clear pc_
      have pg_ : Box w13 (w.heap.size + 1) #[.int .i64 gI0, (.slice gA1 gn1 gc1), (.slice gA2 gn2 gc2)] 75 := (pg.alloc _).below b13 (by first | omega | (simp [size_drew]; done) | (simp [size_drew]; omega))
      clear pg; have pg := pg_; clear pg_
      have kw0_ : Box w13 (gkw0) #[(.slice w0A0 w0n0 w0c0), (.slice w0A1 w0n1 w0c1), (.slice w0A2 w0n2 w0c2)] 37 := (kw0.alloc _).below b13 (by first | omega | (simp [size_drew]; done) | (simp [size_drew]; omega))
      clear kw0; have kw0 := kw0_; clear kw0_
      have xc_ : Box w13 (w11.heap.size) #[(.slice xcA0 xcn0 xcc0), (.slice xcA1 xcn1 xcc1)] 27 := (xc.alloc _).below b13 (by first | omega | (simp [size_drew]; done) | (simp [size_drew]; omega))
      clear xc; have xc := xc_; clear xc_
      have xg_ : Box w13 (w12.heap.size) #[.int .i64 gI0, (.slice xgA1 xgn1 xgc1), (.slice xgA2 xgn2 xgc2)] 33 := (Box.new (g := w12.heap.size) _ #[.int .i64 gI0, (.slice xgA1 xgn1 xgc1), (.slice xgA2 xgn2 xgc2)] 33 (by simp)).below b13 (by first | omega | (simp [size_drew]; done) | (simp [size_drew]; omega))
      have xg := xg_; clear xg_
      try simp only [World.size_alloc, World.size_setCell, size_drew] at rg0
      obtain ⟨ckw0_0, ckw0_1, ckw0_2, fkw0_0, fkw0_1, fkw0_2⟩ := kw0.three
      have l_kw0_0 : gkw0 < w13.heap.size := by omega
      have l_kw0_1 : gkw0 < w13.heap.size + 1 := by omega
      go_wp2_with fail
      refine (eqPublic_L (rg0.alloc _).rd (rw0.alloc _).rd rL0_0n rL0_1n rL0_2n).mono ?_
      rintro e w14 ⟨rfl, b14⟩
      clear ckw0_0 ckw0_1 ckw0_2 fkw0_0 fkw0_1 fkw0_2 l_kw0_0 l_kw0_1
      have z14 := b14.size
      try simp only [World.size_alloc, World.size_setCell, size_drew] at z14
      have B14 : Below w.heap.size w w14 := Below.t b14
      have rw0_ := (rw0.alloc _).below b14
      clear rw0; have rw0 := rw0_; clear rw0_
      have rxc_ := (rxc.alloc _).below b14
      clear rxc; have rxc := rxc_; clear rxc_
      have rxg_ := (rxg.alloc _).below b14
      clear rxg; have rxg := rxg_; clear rxg_
      have rg0_ := (rg0.alloc _).below b14
      clear rg0; have rg0 := rg0_; clear rg0_
      have pc_ : Box w14 (w.heap.size) #[(.slice cA0 cn0 cc0), (.slice cA1 cn1 cc1)] 63 := (pc.alloc _).below b14 (by first | omega | (simp [size_drew]; done) | (simp [size_drew]; omega))
      clear pc; have pc := pc_; clear pc_
      have pg_ : Box w14 (w.heap.size + 1) #[.int .i64 gI0, (.slice gA1 gn1 gc1), (.slice gA2 gn2 gc2)] 75 := (pg.alloc _).below b14 (by first | omega | (simp [size_drew]; done) | (simp [size_drew]; omega))
      clear pg; have pg := pg_; clear pg_
      have kw0_ : Box w14 (gkw0) #[(.slice w0A0 w0n0 w0c0), (.slice w0A1 w0n1 w0c1), (.slice w0A2 w0n2 w0c2)] 37 := (kw0.alloc _).below b14 (by first | omega | (simp [size_drew]; done) | (simp [size_drew]; omega))
      clear kw0; have kw0 := kw0_; clear kw0_
      have xc_ : Box w14 (w11.heap.size) #[(.slice xcA0 xcn0 xcc0), (.slice xcA1 xcn1 xcc1)] 27 := (xc.alloc _).below b14 (by first | omega | (simp [size_drew]; done) | (simp [size_drew]; omega))
      clear xc; have xc := xc_; clear xc_
      have xg_ : Box w14 (w12.heap.size) #[.int .i64 gI0, (.slice xgA1 xgn1 xgc1), (.slice xgA2 xgn2 xgc2)] 33 := (xg.alloc _).below b14 (by first | omega | (simp [size_drew]; done) | (simp [size_drew]; omega))
      clear xg; have xg := xg_; clear xg_
      have kg0_ : Box w14 (w13.heap.size) #[(.slice g0A0 g0n0 g0c0), (.slice g0A1 g0n1 g0c1), (.slice g0A2 g0n2 g0c2)] 37 := (Box.new (g := w13.heap.size) _ #[(.slice g0A0 g0n0 g0c0), (.slice g0A1 g0n1 g0c1), (.slice g0A2 g0n2 g0c2)] 37 (by simp)).below b14 (by first | omega | (simp [size_drew]; done) | (simp [size_drew]; omega))
      have kg0 := kg0_; clear kg0_
      obtain ⟨cpc_0, cpc_1, fpc_0, fpc_1⟩ := pc.two
      have l_pc_0 : w.heap.size < w14.heap.size := by omega
      obtain ⟨cxc_0, cxc_1, fxc_0, fxc_1⟩ := xc.two
      have l_xc_0 : w11.heap.size < w14.heap.size := by omega
      go_wp2_with fail
      clear cpc_0 cpc_1 fpc_0 fpc_1 l_pc_0 cxc_0 cxc_1 fxc_0 fxc_1 l_xc_0
      refine wp_region_held_drew (S := fun W => W.cell? ⟨w.heap.size, 0, none⟩ = some ((.slice cA0 cn0 cc0)) ∧ W.cell? ⟨w.heap.size, 1, none⟩ = some ((.slice cA1 cn1 cc1)) ∧ W.cell? ⟨w11.heap.size, 0, none⟩ = some ((.slice xcA0 xcn0 xcc0)) ∧ W.cell? ⟨w11.heap.size, 1, none⟩ = some ((.slice xcA1 xcn1 xcc1))) (by kernel_rfl) ⟨pc.drew.two.1, pc.drew.two.2.1, xc.drew.two.1, xc.drew.two.2.1⟩ (fun hS => ?_)
      (refine tk 0 hS ?_; (try simp only [Act.put, List.setIfInBounds_toArray, List.set_cons_zero, List.set_cons_succ]))
      (refine tk 1 hS ?_; (try simp only [Act.put, List.setIfInBounds_toArray, List.set_cons_zero, List.set_cons_succ]))
      refine on 2 ?_
      refine callH (by go_simp; (first | done | with_reducible rfl | exact ⟨rfl, rfl⟩)) ?_
      go_at_call 49
      refine (toCircuit_L (RdL.cons (d := .gates cL0) cL0h.rd.b (RdL.cons (d := .ints cL1) cL1h.rd.b RdL.nil)) cL0n cL1n).mono ?_
      rintro e w15 ⟨zcA0, zcn0, zcc0, zcA1, zcn1, zcc1, rfl, rzc, b15⟩
      clear hS
      have z15 := Below.size b15
      (try simp only [World.size_alloc, World.size_setCell, size_drew] at z15)
      have B15 : Below w.heap.size w w15 := Below.t b15
      have rw0_ := (rw0.drew.below b15)
      clear rw0; have rw0 := rw0_; clear rw0_
      have rxc_ := (rxc.drew.below b15)
      clear rxc; have rxc := rxc_; clear rxc_
      have rxg_ := (rxg.drew.below b15)
      clear rxg; have rxg := rxg_; clear rxg_
      have rg0_ := (rg0.drew.below b15)
      clear rg0; have rg0 := rg0_; clear rg0_
      have pc_ : Box w15 (w.heap.size) #[(.slice cA0 cn0 cc0), (.slice cA1 cn1 cc1)] 63 := (Box.b pc.drew b15)
      clear pc; have pc := pc_; clear pc_
      have pg_ : Box w15 (w.heap.size + 1) #[.int .i64 gI0, (.slice gA1 gn1 gc1), (.slice gA2 gn2 gc2)] 75 := (Box.b pg.drew b15)
      clear pg; have pg := pg_; clear pg_
      have kw0_ : Box w15 (gkw0) #[(.slice w0A0 w0n0 w0c0), (.slice w0A1 w0n1 w0c1), (.slice w0A2 w0n2 w0c2)] 37 := (Box.b kw0.drew b15)
      clear kw0; have kw0 := kw0_; clear kw0_
      have xc_ : Box w15 (w11.heap.size) #[(.slice xcA0 xcn0 xcc0), (.slice xcA1 xcn1 xcc1)] 27 := (Box.b xc.drew b15)
      clear xc; have xc := xc_; clear xc_
      have xg_ : Box w15 (w12.heap.size) #[.int .i64 gI0, (.slice xgA1 xgn1 xgc1), (.slice xgA2 xgn2 xgc2)] 33 := (Box.b xg.drew b15)
      clear xg; have xg := xg_; clear xg_
      have kg0_ : Box w15 (w13.heap.size) #[(.slice g0A0 g0n0 g0c0), (.slice g0A1 g0n1 g0c1), (.slice g0A2 g0n2 g0c2)] 37 := (Box.b kg0.drew b15)
      clear kg0; have kg0 := kg0_; clear kg0_
      (try simp only [World.size_alloc, World.size_setCell, size_drew] at rzc)
      refine ⟨_, rfl, ⟨pc.two.1, pc.two.2.1, xc.two.1, xc.two.2.1⟩, fun hS => ?_⟩
      (try simp only [Act.put, List.setIfInBounds_toArray, List.set_cons_zero, List.set_cons_succ])
      refine on 3 ?_
      refine callH (by go_simp; (first | done | with_reducible rfl | exact ⟨rfl, rfl⟩)) ?_
      go_at_call 51
      refine (eqCircuit_L rxc.rd rzc.rd cL0n cL1n).mono ?_
      rintro e w16 ⟨rfl, b16⟩
      clear hS
      have z16 := Below.size b16
      (try simp only [World.size_alloc, World.size_setCell, size_drew] at z16)
      have B16 : Below w.heap.size w w16 := Below.t b16
      have rw0_ := (rw0.below b16)
      clear rw0; have rw0 := rw0_; clear rw0_
      have rxc_ := (rxc.below b16)
      clear rxc; have rxc := rxc_; clear rxc_
      have rxg_ := (rxg.below b16)
      clear rxg; have rxg := rxg_; clear rxg_
      have rg0_ := (rg0.below b16)
      clear rg0; have rg0 := rg0_; clear rg0_
      have rzc_ := (rzc.below b16)
      clear rzc; have rzc := rzc_; clear rzc_
      have pc_ : Box w16 (w.heap.size) #[(.slice cA0 cn0 cc0), (.slice cA1 cn1 cc1)] 63 := (Box.b pc b16)
      clear pc; have pc := pc_; clear pc_
      have pg_ : Box w16 (w.heap.size + 1) #[.int .i64 gI0, (.slice gA1 gn1 gc1), (.slice gA2 gn2 gc2)] 75 := (Box.b pg b16)
      clear pg; have pg := pg_; clear pg_
      have kw0_ : Box w16 (gkw0) #[(.slice w0A0 w0n0 w0c0), (.slice w0A1 w0n1 w0c1), (.slice w0A2 w0n2 w0c2)] 37 := (Box.b kw0 b16)
      clear kw0; have kw0 := kw0_; clear kw0_
      have xc_ : Box w16 (w11.heap.size) #[(.slice xcA0 xcn0 xcc0), (.slice xcA1 xcn1 xcc1)] 27 := (Box.b xc b16)
      clear xc; have xc := xc_; clear xc_
      have xg_ : Box w16 (w12.heap.size) #[.int .i64 gI0, (.slice xgA1 xgn1 xgc1), (.slice xgA2 xgn2 xgc2)] 33 := (Box.b xg b16)
      clear xg; have xg := xg_; clear xg_
      have kg0_ : Box w16 (w13.heap.size) #[(.slice g0A0 g0n0 g0c0), (.slice g0A1 g0n1 g0c1), (.slice g0A2 g0n2 g0c2)] 37 := (Box.b kg0 b16)
      clear kg0; have kg0 := kg0_; clear kg0_
      refine ⟨_, rfl, ⟨pc.two.1, pc.two.2.1, xc.two.1, xc.two.2.1⟩, fun hS => ?_⟩
      (try simp only [Act.put, List.setIfInBounds_toArray, List.set_cons_zero, List.set_cons_succ])
      (refine tk 4 hS ?_; (try simp only [Act.put, List.setIfInBounds_toArray, List.set_cons_zero, List.set_cons_succ]))
      clear hS
      refine wpAnyH_done (by kernel_rfl) ?_ _
      obtain ⟨cpg_0, cpg_1, cpg_2, fpg_0, fpg_1, fpg_2⟩ := pg.three
      have l_pg_0 : w.heap.size + 1 < w16.heap.size := by omega
      obtain ⟨cxg_0, cxg_1, cxg_2, fxg_0, fxg_1, fxg_2⟩ := xg.three
      have l_xg_0 : w12.heap.size < w16.heap.size := by omega
      go_wp2_with fail
      clear cpg_0 cpg_1 cpg_2 fpg_0 fpg_1 fpg_2 l_pg_0 cxg_0 cxg_1 cxg_2 fxg_0 fxg_1 fxg_2 l_xg_0
      refine wp_region_held_drew (S := fun W => W.cell? ⟨w.heap.size + 1, 0, none⟩ = some (.int .i64 gI0) ∧ W.cell? ⟨w.heap.size + 1, 1, none⟩ = some ((.slice gA1 gn1 gc1)) ∧ W.cell? ⟨w.heap.size + 1, 2, none⟩ = some ((.slice gA2 gn2 gc2)) ∧ W.cell? ⟨w12.heap.size, 0, none⟩ = some (.int .i64 gI0) ∧ W.cell? ⟨w12.heap.size, 1, none⟩ = some ((.slice xgA1 xgn1 xgc1)) ∧ W.cell? ⟨w12.heap.size, 2, none⟩ = some ((.slice xgA2 xgn2 xgc2))) (by kernel_rfl) ⟨pg.drew.three.1, pg.drew.three.2.1, pg.drew.three.2.2.1, xg.drew.three.1, xg.drew.three.2.1, xg.drew.three.2.2.1⟩ (fun hS => ?_)
      (refine tk 0 hS ?_; (try simp only [Act.put, List.setIfInBounds_toArray, List.set_cons_zero, List.set_cons_succ]))
      (refine tk 1 hS ?_; (try simp only [Act.put, List.setIfInBounds_toArray, List.set_cons_zero, List.set_cons_succ]))
      refine on 2 ?_
      refine callH (by go_simp; (first | done | with_reducible rfl | exact ⟨rfl, rfl⟩)) ?_
      go_at_call 59
      refine (toGarbled_L gI0 (RdL.cons (d := .ints gL1) gL1h.rd.b (RdL.cons (d := .ints gL2) gL2h.rd.b RdL.nil)) gL1n gL2n).mono ?_
      rintro e w17 ⟨zgA1, zgn1, zgc1, zgA2, zgn2, zgc2, rfl, rzg, b17⟩
      clear hS
      have z17 := Below.size b17
      (try simp only [World.size_alloc, World.size_setCell, size_drew] at z17)
      have B17 : Below w.heap.size w w17 := Below.t b17
      have rw0_ := (rw0.drew.below b17)
      clear rw0; have rw0 := rw0_; clear rw0_
      have rxc_ := (rxc.drew.below b17)
      clear rxc; have rxc := rxc_; clear rxc_
      have rxg_ := (rxg.drew.below b17)
      clear rxg; have rxg := rxg_; clear rxg_
      have rg0_ := (rg0.drew.below b17)
      clear rg0; have rg0 := rg0_; clear rg0_
      have pc_ : Box w17 (w.heap.size) #[(.slice cA0 cn0 cc0), (.slice cA1 cn1 cc1)] 63 := (Box.b pc.drew b17)
      clear pc; have pc := pc_; clear pc_
      have pg_ : Box w17 (w.heap.size + 1) #[.int .i64 gI0, (.slice gA1 gn1 gc1), (.slice gA2 gn2 gc2)] 75 := (Box.b pg.drew b17)
      clear pg; have pg := pg_; clear pg_
      have kw0_ : Box w17 (gkw0) #[(.slice w0A0 w0n0 w0c0), (.slice w0A1 w0n1 w0c1), (.slice w0A2 w0n2 w0c2)] 37 := (Box.b kw0.drew b17)
      clear kw0; have kw0 := kw0_; clear kw0_
      have xc_ : Box w17 (w11.heap.size) #[(.slice xcA0 xcn0 xcc0), (.slice xcA1 xcn1 xcc1)] 27 := (Box.b xc.drew b17)
      clear xc; have xc := xc_; clear xc_
      have xg_ : Box w17 (w12.heap.size) #[.int .i64 gI0, (.slice xgA1 xgn1 xgc1), (.slice xgA2 xgn2 xgc2)] 33 := (Box.b xg.drew b17)
      clear xg; have xg := xg_; clear xg_
      have kg0_ : Box w17 (w13.heap.size) #[(.slice g0A0 g0n0 g0c0), (.slice g0A1 g0n1 g0c1), (.slice g0A2 g0n2 g0c2)] 37 := (Box.b kg0.drew b17)
      clear kg0; have kg0 := kg0_; clear kg0_
      (try simp only [World.size_alloc, World.size_setCell, size_drew] at rzg)
      refine ⟨_, rfl, ⟨pg.three.1, pg.three.2.1, pg.three.2.2.1, xg.three.1, xg.three.2.1, xg.three.2.2.1⟩, fun hS => ?_⟩
      (try simp only [Act.put, List.setIfInBounds_toArray, List.set_cons_zero, List.set_cons_succ])
      refine on 3 ?_
      refine callH (by go_simp; (first | done | with_reducible rfl | exact ⟨rfl, rfl⟩)) ?_
      go_at_call 61
      refine (eqGarbled_L gI0 rxg.rd rzg.rd gL1n gL2n).mono ?_
      rintro e w18 ⟨rfl, b18⟩
      clear hS
      have z18 := Below.size b18
      (try simp only [World.size_alloc, World.size_setCell, size_drew] at z18)
      have B18 : Below w.heap.size w w18 := Below.t b18
      have rw0_ := (rw0.below b18)
      clear rw0; have rw0 := rw0_; clear rw0_
      have rxc_ := (rxc.below b18)
      clear rxc; have rxc := rxc_; clear rxc_
      have rxg_ := (rxg.below b18)
      clear rxg; have rxg := rxg_; clear rxg_
      have rg0_ := (rg0.below b18)
      clear rg0; have rg0 := rg0_; clear rg0_
      have rzg_ := (rzg.below b18)
      clear rzg; have rzg := rzg_; clear rzg_
      have pc_ : Box w18 (w.heap.size) #[(.slice cA0 cn0 cc0), (.slice cA1 cn1 cc1)] 63 := (Box.b pc b18)
      clear pc; have pc := pc_; clear pc_
      have pg_ : Box w18 (w.heap.size + 1) #[.int .i64 gI0, (.slice gA1 gn1 gc1), (.slice gA2 gn2 gc2)] 75 := (Box.b pg b18)
      clear pg; have pg := pg_; clear pg_
      have kw0_ : Box w18 (gkw0) #[(.slice w0A0 w0n0 w0c0), (.slice w0A1 w0n1 w0c1), (.slice w0A2 w0n2 w0c2)] 37 := (Box.b kw0 b18)
      clear kw0; have kw0 := kw0_; clear kw0_
      have xc_ : Box w18 (w11.heap.size) #[(.slice xcA0 xcn0 xcc0), (.slice xcA1 xcn1 xcc1)] 27 := (Box.b xc b18)
      clear xc; have xc := xc_; clear xc_
      have xg_ : Box w18 (w12.heap.size) #[.int .i64 gI0, (.slice xgA1 xgn1 xgc1), (.slice xgA2 xgn2 xgc2)] 33 := (Box.b xg b18)
      clear xg; have xg := xg_; clear xg_
      have kg0_ : Box w18 (w13.heap.size) #[(.slice g0A0 g0n0 g0c0), (.slice g0A1 g0n1 g0c1), (.slice g0A2 g0n2 g0c2)] 37 := (Box.b kg0 b18)
      clear kg0; have kg0 := kg0_; clear kg0_
      refine ⟨_, rfl, ⟨pg.three.1, pg.three.2.1, pg.three.2.2.1, xg.three.1, xg.three.2.1, xg.three.2.2.1⟩, fun hS => ?_⟩
      (try simp only [Act.put, List.setIfInBounds_toArray, List.set_cons_zero, List.set_cons_succ])
      (refine tk 4 hS ?_; (try simp only [Act.put, List.setIfInBounds_toArray, List.set_cons_zero, List.set_cons_succ]))
      clear hS
      refine wpAnyH_done (by kernel_rfl) ?_ _
      obtain ⟨cxc_0, cxc_1, fxc_0, fxc_1⟩ := xc.two
      have l_xc_0 : w11.heap.size < w18.heap.size := by omega
      go_wp2_with fail
      refine (markCircuit_L (1) _ rxc (by first | omega | (simp [size_drew]; done) | (simp [size_drew]; omega)) (by omega) cL0n cL1n).mono ?_
      rintro e w19 ⟨rfl, rxc, c19⟩
      clear cxc_0 cxc_1 fxc_0 fxc_1 l_xc_0
      have z19 := c19.size
      try simp only [World.size_alloc, World.size_setCell, size_drew] at z19
      have rw0_ := rw0.away c19 (by omega)
      clear rw0; have rw0 := rw0_; clear rw0_
      have rxg_ := rxg.away c19 (by omega)
      clear rxg; have rxg := rxg_; clear rxg_
      have rg0_ := rg0.away c19 (by omega)
      clear rg0; have rg0 := rg0_; clear rg0_
      have pc_ : Box w19 (w.heap.size) #[(.slice cA0 cn0 cc0), (.slice cA1 cn1 cc1)] 63 := pc.chg c19 (by omega)
      clear pc; have pc := pc_; clear pc_
      have pg_ : Box w19 (w.heap.size + 1) #[.int .i64 gI0, (.slice gA1 gn1 gc1), (.slice gA2 gn2 gc2)] 75 := pg.chg c19 (by omega)
      clear pg; have pg := pg_; clear pg_
      have kw0_ : Box w19 (gkw0) #[(.slice w0A0 w0n0 w0c0), (.slice w0A1 w0n1 w0c1), (.slice w0A2 w0n2 w0c2)] 37 := kw0.chg c19 (by omega)
      clear kw0; have kw0 := kw0_; clear kw0_
      have xc_ : Box w19 (w11.heap.size) #[(.slice xcA0 xcn0 xcc0), (.slice xcA1 xcn1 xcc1)] 27 := xc.chg c19 (by omega)
      clear xc; have xc := xc_; clear xc_
      have xg_ : Box w19 (w12.heap.size) #[.int .i64 gI0, (.slice xgA1 xgn1 xgc1), (.slice xgA2 xgn2 xgc2)] 33 := xg.chg c19 (by omega)
      clear xg; have xg := xg_; clear xg_
      have kg0_ : Box w19 (w13.heap.size) #[(.slice g0A0 g0n0 g0c0), (.slice g0A1 g0n1 g0c1), (.slice g0A2 g0n2 g0c2)] 37 := kg0.chg c19 (by omega)
      clear kg0; have kg0 := kg0_; clear kg0_
      have B19 : Below w.heap.size w w19 := B18.trans (c19.below (by omega) (by omega))
      obtain ⟨cxg_0, cxg_1, cxg_2, fxg_0, fxg_1, fxg_2⟩ := xg.three
      have l_xg_0 : w12.heap.size < w19.heap.size := by omega
      go_wp2_with fail
      refine (markGarbled_L gI0 (1 + (3 * cL0.length + cL1.length)) _ rxg (by first | omega | (simp [size_drew]; done) | (simp [size_drew]; omega)) (by omega) gL1n gL2n).mono ?_
      rintro e w20 ⟨rfl, rxg, c20⟩
      clear cxg_0 cxg_1 cxg_2 fxg_0 fxg_1 fxg_2 l_xg_0
      have z20 := c20.size
      try simp only [World.size_alloc, World.size_setCell, size_drew] at z20
      have rw0_ := rw0.away c20 (by omega)
      clear rw0; have rw0 := rw0_; clear rw0_
      have rg0_ := rg0.away c20 (by omega)
      clear rg0; have rg0 := rg0_; clear rg0_
      have rxc_ := rxc.away c20 (by omega)
      clear rxc; have rxc := rxc_; clear rxc_
      have pc_ : Box w20 (w.heap.size) #[(.slice cA0 cn0 cc0), (.slice cA1 cn1 cc1)] 63 := pc.chg c20 (by omega)
      clear pc; have pc := pc_; clear pc_
      have pg_ : Box w20 (w.heap.size + 1) #[.int .i64 gI0, (.slice gA1 gn1 gc1), (.slice gA2 gn2 gc2)] 75 := pg.chg c20 (by omega)
      clear pg; have pg := pg_; clear pg_
      have kw0_ : Box w20 (gkw0) #[(.slice w0A0 w0n0 w0c0), (.slice w0A1 w0n1 w0c1), (.slice w0A2 w0n2 w0c2)] 37 := kw0.chg c20 (by omega)
      clear kw0; have kw0 := kw0_; clear kw0_
      have xc_ : Box w20 (w11.heap.size) #[(.slice xcA0 xcn0 xcc0), (.slice xcA1 xcn1 xcc1)] 27 := xc.chg c20 (by omega)
      clear xc; have xc := xc_; clear xc_
      have xg_ : Box w20 (w12.heap.size) #[.int .i64 gI0, (.slice xgA1 xgn1 xgc1), (.slice xgA2 xgn2 xgc2)] 33 := xg.chg c20 (by omega)
      clear xg; have xg := xg_; clear xg_
      have kg0_ : Box w20 (w13.heap.size) #[(.slice g0A0 g0n0 g0c0), (.slice g0A1 g0n1 g0c1), (.slice g0A2 g0n2 g0c2)] 37 := kg0.chg c20 (by omega)
      clear kg0; have kg0 := kg0_; clear kg0_
      have B20 : Below w.heap.size w w20 := B19.trans (c20.below (by omega) (by omega))
      obtain ⟨ckg0_0, ckg0_1, ckg0_2, fkg0_0, fkg0_1, fkg0_2⟩ := kg0.three
      have l_kg0_0 : w13.heap.size < w20.heap.size := by omega
      obtain ⟨ckw0_0, ckw0_1, ckw0_2, fkw0_0, fkw0_1, fkw0_2⟩ := kw0.three
      have l_kw0_0 : gkw0 < w20.heap.size := by omega
      go_wp2_with fail
      refine (eqPublic_L rg0.rd rw0.rd rL0_0n rL0_1n rL0_2n).mono ?_
      rintro e w21 ⟨rfl, b21⟩
      clear ckg0_0 ckg0_1 ckg0_2 fkg0_0 fkg0_1 fkg0_2 l_kg0_0 ckw0_0 ckw0_1 ckw0_2 fkw0_0 fkw0_1 fkw0_2 l_kw0_0
      have z21 := b21.size
      try simp only [World.size_alloc, World.size_setCell, size_drew] at z21
      have B21 : Below w.heap.size w w21 := Below.t b21
      have rw0_ := rw0.below b21
      clear rw0; have rw0 := rw0_; clear rw0_
      have rg0_ := rg0.below b21
      clear rg0; have rg0 := rg0_; clear rg0_
      have rxc_ := rxc.below b21
      clear rxc; have rxc := rxc_; clear rxc_
      have rxg_ := rxg.below b21
      clear rxg; have rxg := rxg_; clear rxg_
      have pc_ : Box w21 (w.heap.size) #[(.slice cA0 cn0 cc0), (.slice cA1 cn1 cc1)] 63 := pc.below b21 (by first | omega | (simp [size_drew]; done) | (simp [size_drew]; omega))
      clear pc; have pc := pc_; clear pc_
      have pg_ : Box w21 (w.heap.size + 1) #[.int .i64 gI0, (.slice gA1 gn1 gc1), (.slice gA2 gn2 gc2)] 75 := pg.below b21 (by first | omega | (simp [size_drew]; done) | (simp [size_drew]; omega))
      clear pg; have pg := pg_; clear pg_
      have kw0_ : Box w21 (gkw0) #[(.slice w0A0 w0n0 w0c0), (.slice w0A1 w0n1 w0c1), (.slice w0A2 w0n2 w0c2)] 37 := kw0.below b21 (by first | omega | (simp [size_drew]; done) | (simp [size_drew]; omega))
      clear kw0; have kw0 := kw0_; clear kw0_
      have xc_ : Box w21 (w11.heap.size) #[(.slice xcA0 xcn0 xcc0), (.slice xcA1 xcn1 xcc1)] 27 := xc.below b21 (by first | omega | (simp [size_drew]; done) | (simp [size_drew]; omega))
      clear xc; have xc := xc_; clear xc_
      have xg_ : Box w21 (w12.heap.size) #[.int .i64 gI0, (.slice xgA1 xgn1 xgc1), (.slice xgA2 xgn2 xgc2)] 33 := xg.below b21 (by first | omega | (simp [size_drew]; done) | (simp [size_drew]; omega))
      clear xg; have xg := xg_; clear xg_
      have kg0_ : Box w21 (w13.heap.size) #[(.slice g0A0 g0n0 g0c0), (.slice g0A1 g0n1 g0c1), (.slice g0A2 g0n2 g0c2)] 37 := kg0.below b21 (by first | omega | (simp [size_drew]; done) | (simp [size_drew]; omega))
      clear kg0; have kg0 := kg0_; clear kg0_
      obtain ⟨ckg0_0, ckg0_1, ckg0_2, fkg0_0, fkg0_1, fkg0_2⟩ := kg0.three
      have l_kg0_0 : w13.heap.size < w21.heap.size := by omega
      go_wp2_with fail
      refine (markPublic_L (1) _ rg0 (by first | omega | (simp [size_drew]; done) | (simp [size_drew]; omega)) (by omega) rL0_0n rL0_1n rL0_2n).mono ?_
      rintro e w22 ⟨rfl, rg0, c22⟩
      clear ckg0_0 ckg0_1 ckg0_2 fkg0_0 fkg0_1 fkg0_2 l_kg0_0
      have z22 := c22.size
      try simp only [World.size_alloc, World.size_setCell, size_drew] at z22
      have rw0_ := rw0.away c22 (by omega)
      clear rw0; have rw0 := rw0_; clear rw0_
      have pc_ : Box w22 (w.heap.size) #[(.slice cA0 cn0 cc0), (.slice cA1 cn1 cc1)] 63 := pc.chg c22 (by omega)
      clear pc; have pc := pc_; clear pc_
      have pg_ : Box w22 (w.heap.size + 1) #[.int .i64 gI0, (.slice gA1 gn1 gc1), (.slice gA2 gn2 gc2)] 75 := pg.chg c22 (by omega)
      clear pg; have pg := pg_; clear pg_
      have kw0_ : Box w22 (gkw0) #[(.slice w0A0 w0n0 w0c0), (.slice w0A1 w0n1 w0c1), (.slice w0A2 w0n2 w0c2)] 37 := kw0.chg c22 (by omega)
      clear kw0; have kw0 := kw0_; clear kw0_
      have kg0_ : Box w22 (w13.heap.size) #[(.slice g0A0 g0n0 g0c0), (.slice g0A1 g0n1 g0c1), (.slice g0A2 g0n2 g0c2)] 37 := kg0.chg c22 (by omega)
      clear kg0; have kg0 := kg0_; clear kg0_
      have B22 : Below w.heap.size w w22 := B21.trans (c22.below (by omega) (by omega))
      obtain ⟨ckg0_0, ckg0_1, ckg0_2, fkg0_0, fkg0_1, fkg0_2⟩ := kg0.three
      have l_kg0_0 : w13.heap.size < w22.heap.size := by omega
      go_wp2_with fail
      refine (heldPublic_L (puT cL0 cL1 gI0 gL1 gL2).length (puC cL0 cL1 gI0 gL1 gL2).length (puD cL0 cL1 gI0 gL1 gL2).length (1) _ rg0.rd (by first | omega | (simp [size_drew]; done) | (simp [size_drew]; omega)) (by omega) rL0_0n rL0_1n rL0_2n).mono ?_
      rintro e w23 ⟨rfl, b23⟩
      clear ckg0_0 ckg0_1 ckg0_2 fkg0_0 fkg0_1 fkg0_2 l_kg0_0
      have z23 := b23.size
      try simp only [World.size_alloc, World.size_setCell, size_drew] at z23
      have B23 : Below w.heap.size w w23 := Below.t b23
      have rw0_ := rw0.below b23
      clear rw0; have rw0 := rw0_; clear rw0_
      have rg0_ := rg0.below b23
      clear rg0; have rg0 := rg0_; clear rg0_
      have pc_ : Box w23 (w.heap.size) #[(.slice cA0 cn0 cc0), (.slice cA1 cn1 cc1)] 63 := pc.below b23 (by first | omega | (simp [size_drew]; done) | (simp [size_drew]; omega))
      clear pc; have pc := pc_; clear pc_
      have pg_ : Box w23 (w.heap.size + 1) #[.int .i64 gI0, (.slice gA1 gn1 gc1), (.slice gA2 gn2 gc2)] 75 := pg.below b23 (by first | omega | (simp [size_drew]; done) | (simp [size_drew]; omega))
      clear pg; have pg := pg_; clear pg_
      have kw0_ : Box w23 (gkw0) #[(.slice w0A0 w0n0 w0c0), (.slice w0A1 w0n1 w0c1), (.slice w0A2 w0n2 w0c2)] 37 := kw0.below b23 (by first | omega | (simp [size_drew]; done) | (simp [size_drew]; omega))
      clear kw0; have kw0 := kw0_; clear kw0_
      have kg0_ : Box w23 (w13.heap.size) #[(.slice g0A0 g0n0 g0c0), (.slice g0A1 g0n1 g0c1), (.slice g0A2 g0n2 g0c2)] 37 := kg0.below b23 (by first | omega | (simp [size_drew]; done) | (simp [size_drew]; omega))
      clear kg0; have kg0 := kg0_; clear kg0_
      obtain ⟨cpc_0, cpc_1, fpc_0, fpc_1⟩ := pc.two
      have l_pc_0 : w.heap.size < w23.heap.size := by omega
      obtain ⟨cpg_0, cpg_1, cpg_2, fpg_0, fpg_1, fpg_2⟩ := pg.three
      have l_pg_0 : w.heap.size + 1 < w23.heap.size := by omega
      go_wp2_with fail
      clear cpc_0 cpc_1 fpc_0 fpc_1 l_pc_0 cpg_0 cpg_1 cpg_2 fpg_0 fpg_1 fpg_2 l_pg_0
      refine wp_region_M [9] (w23.heap.size) 11 (S := fun W => Below w.heap.size w W ∧ Below w23.heap.size w23 W ∧ W.cell? ⟨w.heap.size, 0, none⟩ = some ((.slice cA0 cn0 cc0)) ∧ W.cell? ⟨w.heap.size, 1, none⟩ = some ((.slice cA1 cn1 cc1)) ∧ W.cell? ⟨w.heap.size + 1, 0, none⟩ = some (.int .i64 gI0) ∧ W.cell? ⟨w.heap.size + 1, 1, none⟩ = some ((.slice gA1 gn1 gc1)) ∧ W.cell? ⟨w.heap.size + 1, 2, none⟩ = some ((.slice gA2 gn2 gc2))) (by kernel_rfl) (by rfl) (fun W hW => ⟨Below.trans (b := _) (by repeat (with_reducible (first | assumption | exact Below.refl _ _ | refine Below.alloc ?_ (by first | omega | (simp; done) | (simp; omega)) _ | refine Below.setCell ?_ (by first | omega | (simp; done) | (simp; omega)) _ | refine Below.drew ?_ | refine below_drewN ?_ _))) (Below.mono hW (by first | omega | (simp [size_drew]; done) | (simp [size_drew]; omega))), Below.trans (b := _) (by repeat (with_reducible (first | assumption | exact Below.refl _ _ | refine Below.alloc ?_ (by first | omega | (simp; done) | (simp; omega)) _ | refine Below.setCell ?_ (by first | omega | (simp; done) | (simp; omega)) _ | refine Below.drew ?_ | refine below_drewN ?_ _))) (Below.mono hW (by first | omega | (simp [size_drew]; done) | (simp [size_drew]; omega))), (Box.below pc.drew hW (by first | omega | (simp [size_drew]; done) | (simp [size_drew]; omega))).two.1, (Box.below pc.drew hW (by first | omega | (simp [size_drew]; done) | (simp [size_drew]; omega))).two.2.1, (Box.below pg.drew hW (by first | omega | (simp [size_drew]; done) | (simp [size_drew]; omega))).three.1, (Box.below pg.drew hW (by first | omega | (simp [size_drew]; done) | (simp [size_drew]; omega))).three.2.1, (Box.below pg.drew hW (by first | omega | (simp [size_drew]; done) | (simp [size_drew]; omega))).three.2.2.1⟩) (by first | omega | (simp [size_drew]; done) | (simp [size_drew]; omega)) (fun hS hG => ?_)
      (try dsimp only at hS)
      refine pendM 8 15 #[.slice none 0 0, .slice none 0 0, .slice none 0 0] 37 (by simp only [List.getElem?_toArray, List.getElem?_cons_succ, List.getElem?_cons_zero] <;> rfl) (by kernel_rfl) (by exact fun _ _ _ _ h => h) (by intro a W; unfold ptr; go_simp; (first | done | rfl)) hG ?_
      (refine tkM 0 hG hS ?_; (try simp only [Act.put, List.setIfInBounds_toArray, List.set_cons_zero, List.set_cons_succ]))
      (refine tkM 2 hG hS ?_; (try simp only [Act.put, List.setIfInBounds_toArray, List.set_cons_zero, List.set_cons_succ]))
      refine callM hG (i := 1) (by simp only [List.getElem?_toArray, List.getElem?_cons_succ, List.getElem?_cons_zero] <;> rfl) (by kernel_rfl) (by rfl) (by rfl) (by intro W hW; have hSw := hS W hW; (try dsimp only at hSw); go_simp; (first | done | with_reducible rfl | exact ⟨rfl, rfl⟩)) ?_
      intro w24 b24
      have B24 : Below w.heap.size w w24 := (hS w24 b24).1
      have z24 := Below.size b24
      (try simp only [World.size_alloc, World.size_setCell, size_drew] at z24)
      have rw0_ := (rw0.drew.below b24)
      clear rw0; have rw0 := rw0_; clear rw0_
      have rg0_ := (rg0.drew.below b24)
      clear rg0; have rg0 := rg0_; clear rg0_
      have pc_ : Box w24 (w.heap.size) #[(.slice cA0 cn0 cc0), (.slice cA1 cn1 cc1)] 63 := (Box.b pc.drew b24)
      clear pc; have pc := pc_; clear pc_
      have pg_ : Box w24 (w.heap.size + 1) #[.int .i64 gI0, (.slice gA1 gn1 gc1), (.slice gA2 gn2 gc2)] 75 := (Box.b pg.drew b24)
      clear pg; have pg := pg_; clear pg_
      have kw0_ : Box w24 (gkw0) #[(.slice w0A0 w0n0 w0c0), (.slice w0A1 w0n1 w0c1), (.slice w0A2 w0n2 w0c2)] 37 := (Box.b kw0.drew b24)
      clear kw0; have kw0 := kw0_; clear kw0_
      have kg0_ : Box w24 (w13.heap.size) #[(.slice g0A0 g0n0 g0c0), (.slice g0A1 g0n1 g0c1), (.slice g0A2 g0n2 g0c2)] 37 := (Box.b kg0.drew b24)
      clear kg0; have kg0 := kg0_; clear kg0_
      clear hS hG
      go_at_call 49
      refine (toCircuit_L (RdL.cons (d := .gates cL0) cL0h.rd.b (RdL.cons (d := .ints cL1) cL1h.rd.b RdL.nil)) cL0n cL1n).mono ?_
      rintro e w25 ⟨tcA0, tcn0, tcc0, tcA1, tcn1, tcc1, rfl, rtc, b25⟩
      refine ⟨_, rfl, b25, fun hG => ?_⟩
      have z25 := Below.size b25
      have B25 : Below w.heap.size w w25 := Below.t b25
      have rw0_ := (rw0.below b25)
      clear rw0; have rw0 := rw0_; clear rw0_
      have rg0_ := (rg0.below b25)
      clear rg0; have rg0 := rg0_; clear rg0_
      have pc_ : Box w25 (w.heap.size) #[(.slice cA0 cn0 cc0), (.slice cA1 cn1 cc1)] 63 := (Box.b pc b25)
      clear pc; have pc := pc_; clear pc_
      have pg_ : Box w25 (w.heap.size + 1) #[.int .i64 gI0, (.slice gA1 gn1 gc1), (.slice gA2 gn2 gc2)] 75 := (Box.b pg b25)
      clear pg; have pg := pg_; clear pg_
      have kw0_ : Box w25 (gkw0) #[(.slice w0A0 w0n0 w0c0), (.slice w0A1 w0n1 w0c1), (.slice w0A2 w0n2 w0c2)] 37 := (Box.b kw0 b25)
      clear kw0; have kw0 := kw0_; clear kw0_
      have kg0_ : Box w25 (w13.heap.size) #[(.slice g0A0 g0n0 g0c0), (.slice g0A1 g0n1 g0c1), (.slice g0A2 g0n2 g0c2)] 37 := (Box.b kg0 b25)
      clear kg0; have kg0 := kg0_; clear kg0_
      (try simp only [Act.put, List.setIfInBounds_toArray, List.set_cons_zero, List.set_cons_succ])
      have hS : ∀ W, Later w25 W → (Below w.heap.size w W ∧ Below w25.heap.size w25 W ∧ W.cell? ⟨w.heap.size, 0, none⟩ = some ((.slice cA0 cn0 cc0)) ∧ W.cell? ⟨w.heap.size, 1, none⟩ = some ((.slice cA1 cn1 cc1)) ∧ W.cell? ⟨w.heap.size + 1, 0, none⟩ = some (.int .i64 gI0) ∧ W.cell? ⟨w.heap.size + 1, 1, none⟩ = some ((.slice gA1 gn1 gc1)) ∧ W.cell? ⟨w.heap.size + 1, 2, none⟩ = some ((.slice gA2 gn2 gc2))) := fun W hW => ⟨Below.trans (b := _) (by repeat (with_reducible (first | assumption | exact Below.refl _ _ | refine Below.alloc ?_ (by first | omega | (simp; done) | (simp; omega)) _ | refine Below.setCell ?_ (by first | omega | (simp; done) | (simp; omega)) _ | refine Below.drew ?_ | refine below_drewN ?_ _))) (Below.mono hW (by first | omega | (simp [size_drew]; done) | (simp [size_drew]; omega))), Below.trans (b := _) (by repeat (with_reducible (first | assumption | exact Below.refl _ _ | refine Below.alloc ?_ (by first | omega | (simp; done) | (simp; omega)) _ | refine Below.setCell ?_ (by first | omega | (simp; done) | (simp; omega)) _ | refine Below.drew ?_ | refine below_drewN ?_ _))) (Below.mono hW (by first | omega | (simp [size_drew]; done) | (simp [size_drew]; omega))), (Box.below pc hW (by first | omega | (simp [size_drew]; done) | (simp [size_drew]; omega))).two.1, (Box.below pc hW (by first | omega | (simp [size_drew]; done) | (simp [size_drew]; omega))).two.2.1, (Box.below pg hW (by first | omega | (simp [size_drew]; done) | (simp [size_drew]; omega))).three.1, (Box.below pg hW (by first | omega | (simp [size_drew]; done) | (simp [size_drew]; omega))).three.2.1, (Box.below pg hW (by first | omega | (simp [size_drew]; done) | (simp [size_drew]; omega))).three.2.2.1⟩
      refine callM hG (i := 3) (by simp only [List.getElem?_toArray, List.getElem?_cons_succ, List.getElem?_cons_zero] <;> rfl) (by kernel_rfl) (by rfl) (by rfl) (by intro W hW; have hSw := hS W hW; (try dsimp only at hSw); go_simp; (first | done | with_reducible rfl | exact ⟨rfl, rfl⟩)) ?_
      intro w26 b26
      have B26 : Below w.heap.size w w26 := (hS w26 b26).1
      have z26 := Below.size b26
      (try simp only [World.size_alloc, World.size_setCell, size_drew] at z26)
      have rw0_ := (rw0.below b26)
      clear rw0; have rw0 := rw0_; clear rw0_
      have rg0_ := (rg0.below b26)
      clear rg0; have rg0 := rg0_; clear rg0_
      have rtc_ := (rtc.below b26)
      clear rtc; have rtc := rtc_; clear rtc_
      have pc_ : Box w26 (w.heap.size) #[(.slice cA0 cn0 cc0), (.slice cA1 cn1 cc1)] 63 := (Box.b pc b26)
      clear pc; have pc := pc_; clear pc_
      have pg_ : Box w26 (w.heap.size + 1) #[.int .i64 gI0, (.slice gA1 gn1 gc1), (.slice gA2 gn2 gc2)] 75 := (Box.b pg b26)
      clear pg; have pg := pg_; clear pg_
      have kw0_ : Box w26 (gkw0) #[(.slice w0A0 w0n0 w0c0), (.slice w0A1 w0n1 w0c1), (.slice w0A2 w0n2 w0c2)] 37 := (Box.b kw0 b26)
      clear kw0; have kw0 := kw0_; clear kw0_
      have kg0_ : Box w26 (w13.heap.size) #[(.slice g0A0 g0n0 g0c0), (.slice g0A1 g0n1 g0c1), (.slice g0A2 g0n2 g0c2)] 37 := (Box.b kg0 b26)
      clear kg0; have kg0 := kg0_; clear kg0_
      clear hS hG
      go_at_call 59
      refine (toGarbled_L gI0 (RdL.cons (d := .ints gL1) gL1h.rd.b (RdL.cons (d := .ints gL2) gL2h.rd.b RdL.nil)) gL1n gL2n).mono ?_
      rintro e w27 ⟨tgA1, tgn1, tgc1, tgA2, tgn2, tgc2, rfl, rtg, b27⟩
      refine ⟨_, rfl, b27, fun hG => ?_⟩
      have z27 := Below.size b27
      have B27 : Below w.heap.size w w27 := Below.t b27
      have rw0_ := (rw0.below b27)
      clear rw0; have rw0 := rw0_; clear rw0_
      have rg0_ := (rg0.below b27)
      clear rg0; have rg0 := rg0_; clear rg0_
      have rtc_ := (rtc.below b27)
      clear rtc; have rtc := rtc_; clear rtc_
      have pc_ : Box w27 (w.heap.size) #[(.slice cA0 cn0 cc0), (.slice cA1 cn1 cc1)] 63 := (Box.b pc b27)
      clear pc; have pc := pc_; clear pc_
      have pg_ : Box w27 (w.heap.size + 1) #[.int .i64 gI0, (.slice gA1 gn1 gc1), (.slice gA2 gn2 gc2)] 75 := (Box.b pg b27)
      clear pg; have pg := pg_; clear pg_
      have kw0_ : Box w27 (gkw0) #[(.slice w0A0 w0n0 w0c0), (.slice w0A1 w0n1 w0c1), (.slice w0A2 w0n2 w0c2)] 37 := (Box.b kw0 b27)
      clear kw0; have kw0 := kw0_; clear kw0_
      have kg0_ : Box w27 (w13.heap.size) #[(.slice g0A0 g0n0 g0c0), (.slice g0A1 g0n1 g0c1), (.slice g0A2 g0n2 g0c2)] 37 := (Box.b kg0 b27)
      clear kg0; have kg0 := kg0_; clear kg0_
      (try simp only [Act.put, List.setIfInBounds_toArray, List.set_cons_zero, List.set_cons_succ])
      have hS : ∀ W, Later w27 W → (Below w.heap.size w W ∧ Below w27.heap.size w27 W ∧ W.cell? ⟨w.heap.size, 0, none⟩ = some ((.slice cA0 cn0 cc0)) ∧ W.cell? ⟨w.heap.size, 1, none⟩ = some ((.slice cA1 cn1 cc1)) ∧ W.cell? ⟨w.heap.size + 1, 0, none⟩ = some (.int .i64 gI0) ∧ W.cell? ⟨w.heap.size + 1, 1, none⟩ = some ((.slice gA1 gn1 gc1)) ∧ W.cell? ⟨w.heap.size + 1, 2, none⟩ = some ((.slice gA2 gn2 gc2))) := fun W hW => ⟨Below.trans (b := _) (by repeat (with_reducible (first | assumption | exact Below.refl _ _ | refine Below.alloc ?_ (by first | omega | (simp; done) | (simp; omega)) _ | refine Below.setCell ?_ (by first | omega | (simp; done) | (simp; omega)) _ | refine Below.drew ?_ | refine below_drewN ?_ _))) (Below.mono hW (by first | omega | (simp [size_drew]; done) | (simp [size_drew]; omega))), Below.trans (b := _) (by repeat (with_reducible (first | assumption | exact Below.refl _ _ | refine Below.alloc ?_ (by first | omega | (simp; done) | (simp; omega)) _ | refine Below.setCell ?_ (by first | omega | (simp; done) | (simp; omega)) _ | refine Below.drew ?_ | refine below_drewN ?_ _))) (Below.mono hW (by first | omega | (simp [size_drew]; done) | (simp [size_drew]; omega))), (Box.below pc hW (by first | omega | (simp [size_drew]; done) | (simp [size_drew]; omega))).two.1, (Box.below pc hW (by first | omega | (simp [size_drew]; done) | (simp [size_drew]; omega))).two.2.1, (Box.below pg hW (by first | omega | (simp [size_drew]; done) | (simp [size_drew]; omega))).three.1, (Box.below pg hW (by first | omega | (simp [size_drew]; done) | (simp [size_drew]; omega))).three.2.1, (Box.below pg hW (by first | omega | (simp [size_drew]; done) | (simp [size_drew]; omega))).three.2.2.1⟩
      refine callM hG (i := 4) (by simp only [List.getElem?_toArray, List.getElem?_cons_succ, List.getElem?_cons_zero] <;> rfl) (by kernel_rfl) (by rfl) (by rfl) (by intro W hW; have hSw := hS W hW; (try dsimp only at hSw); go_simp; (first | done | with_reducible rfl | exact ⟨rfl, rfl⟩)) ?_
      intro w28 b28
      have B28 : Below w.heap.size w w28 := (hS w28 b28).1
      have z28 := Below.size b28
      (try simp only [World.size_alloc, World.size_setCell, size_drew] at z28)
      have rw0_ := (rw0.below b28)
      clear rw0; have rw0 := rw0_; clear rw0_
      have rg0_ := (rg0.below b28)
      clear rg0; have rg0 := rg0_; clear rg0_
      have rtc_ := (rtc.below b28)
      clear rtc; have rtc := rtc_; clear rtc_
      have rtg_ := (rtg.below b28)
      clear rtg; have rtg := rtg_; clear rtg_
      have pc_ : Box w28 (w.heap.size) #[(.slice cA0 cn0 cc0), (.slice cA1 cn1 cc1)] 63 := (Box.b pc b28)
      clear pc; have pc := pc_; clear pc_
      have pg_ : Box w28 (w.heap.size + 1) #[.int .i64 gI0, (.slice gA1 gn1 gc1), (.slice gA2 gn2 gc2)] 75 := (Box.b pg b28)
      clear pg; have pg := pg_; clear pg_
      have kw0_ : Box w28 (gkw0) #[(.slice w0A0 w0n0 w0c0), (.slice w0A1 w0n1 w0c1), (.slice w0A2 w0n2 w0c2)] 37 := (Box.b kw0 b28)
      clear kw0; have kw0 := kw0_; clear kw0_
      have kg0_ : Box w28 (w13.heap.size) #[(.slice g0A0 g0n0 g0c0), (.slice g0A1 g0n1 g0c1), (.slice g0A2 g0n2 g0c2)] 37 := (Box.b kg0 b28)
      clear kg0; have kg0 := kg0_; clear kg0_
      clear hS hG
      go_at_call 25
      refine (iPublicOf_L rtc.rd cL0n cL1n gI0 rtg.rd gL1n gL2n).mono ?_
      rintro e w29 ⟨h0A0, h0n0, h0c0, h0A1, h0n1, h0c1, h0A2, h0n2, h0c2, rfl, rh0, b29⟩
      refine ⟨_, rfl, b29, fun hG => ?_⟩
      have z29 := Below.size b29
      have B29 : Below w.heap.size w w29 := Below.t b29
      have rw0_ := (rw0.below b29)
      clear rw0; have rw0 := rw0_; clear rw0_
      have rg0_ := (rg0.below b29)
      clear rg0; have rg0 := rg0_; clear rg0_
      have rtc_ := (rtc.below b29)
      clear rtc; have rtc := rtc_; clear rtc_
      have rtg_ := (rtg.below b29)
      clear rtg; have rtg := rtg_; clear rtg_
      have pc_ : Box w29 (w.heap.size) #[(.slice cA0 cn0 cc0), (.slice cA1 cn1 cc1)] 63 := (Box.b pc b29)
      clear pc; have pc := pc_; clear pc_
      have pg_ : Box w29 (w.heap.size + 1) #[.int .i64 gI0, (.slice gA1 gn1 gc1), (.slice gA2 gn2 gc2)] 75 := (Box.b pg b29)
      clear pg; have pg := pg_; clear pg_
      have kw0_ : Box w29 (gkw0) #[(.slice w0A0 w0n0 w0c0), (.slice w0A1 w0n1 w0c1), (.slice w0A2 w0n2 w0c2)] 37 := (Box.b kw0 b29)
      clear kw0; have kw0 := kw0_; clear kw0_
      have kg0_ : Box w29 (w13.heap.size) #[(.slice g0A0 g0n0 g0c0), (.slice g0A1 g0n1 g0c1), (.slice g0A2 g0n2 g0c2)] 37 := (Box.b kg0 b29)
      clear kg0; have kg0 := kg0_; clear kg0_
      (try simp only [Act.put, List.setIfInBounds_toArray, List.set_cons_zero, List.set_cons_succ])
      have hS : ∀ W, Later w29 W → (Below w.heap.size w W ∧ Below w29.heap.size w29 W ∧ W.cell? ⟨w.heap.size, 0, none⟩ = some ((.slice cA0 cn0 cc0)) ∧ W.cell? ⟨w.heap.size, 1, none⟩ = some ((.slice cA1 cn1 cc1)) ∧ W.cell? ⟨w.heap.size + 1, 0, none⟩ = some (.int .i64 gI0) ∧ W.cell? ⟨w.heap.size + 1, 1, none⟩ = some ((.slice gA1 gn1 gc1)) ∧ W.cell? ⟨w.heap.size + 1, 2, none⟩ = some ((.slice gA2 gn2 gc2))) := fun W hW => ⟨Below.trans (b := _) (by repeat (with_reducible (first | assumption | exact Below.refl _ _ | refine Below.alloc ?_ (by first | omega | (simp; done) | (simp; omega)) _ | refine Below.setCell ?_ (by first | omega | (simp; done) | (simp; omega)) _ | refine Below.drew ?_ | refine below_drewN ?_ _))) (Below.mono hW (by first | omega | (simp [size_drew]; done) | (simp [size_drew]; omega))), Below.trans (b := _) (by repeat (with_reducible (first | assumption | exact Below.refl _ _ | refine Below.alloc ?_ (by first | omega | (simp; done) | (simp; omega)) _ | refine Below.setCell ?_ (by first | omega | (simp; done) | (simp; omega)) _ | refine Below.drew ?_ | refine below_drewN ?_ _))) (Below.mono hW (by first | omega | (simp [size_drew]; done) | (simp [size_drew]; omega))), (Box.below pc hW (by first | omega | (simp [size_drew]; done) | (simp [size_drew]; omega))).two.1, (Box.below pc hW (by first | omega | (simp [size_drew]; done) | (simp [size_drew]; omega))).two.2.1, (Box.below pg hW (by first | omega | (simp [size_drew]; done) | (simp [size_drew]; omega))).three.1, (Box.below pg hW (by first | omega | (simp [size_drew]; done) | (simp [size_drew]; omega))).three.2.1, (Box.below pg hW (by first | omega | (simp [size_drew]; done) | (simp [size_drew]; omega))).three.2.2.1⟩
      (refine tkM 5 hG hS ?_; (try simp only [Act.put, List.setIfInBounds_toArray, List.set_cons_zero, List.set_cons_succ]))
      (refine tkM 6 hG hS ?_; (try simp only [Act.put, List.setIfInBounds_toArray, List.set_cons_zero, List.set_cons_succ]))
      (refine tkY 7 hG ?_; (try simp only [Act.put, List.setIfInBounds_toArray, List.set_cons_zero, List.set_cons_succ]))
      refine storeM (z := 9) (by simp only [List.getElem?_toArray, List.getElem?_cons_succ, List.getElem?_cons_zero] <;> rfl) (by kernel_rfl) (by rfl) (by rfl) ?_
      intro w30 b30
      have B30 : Below w.heap.size w w30 := (hS w30 b30).1
      have z30 := Below.size b30
      (try simp only [World.size_alloc, World.size_setCell, size_drew] at z30)
      have rw0_ := (rw0.below b30)
      clear rw0; have rw0 := rw0_; clear rw0_
      have rg0_ := (rg0.below b30)
      clear rg0; have rg0 := rg0_; clear rg0_
      have rtc_ := (rtc.below b30)
      clear rtc; have rtc := rtc_; clear rtc_
      have rtg_ := (rtg.below b30)
      clear rtg; have rtg := rtg_; clear rtg_
      have rh0_ := (rh0.below b30)
      clear rh0; have rh0 := rh0_; clear rh0_
      have pc_ : Box w30 (w.heap.size) #[(.slice cA0 cn0 cc0), (.slice cA1 cn1 cc1)] 63 := (Box.b pc b30)
      clear pc; have pc := pc_; clear pc_
      have pg_ : Box w30 (w.heap.size + 1) #[.int .i64 gI0, (.slice gA1 gn1 gc1), (.slice gA2 gn2 gc2)] 75 := (Box.b pg b30)
      clear pg; have pg := pg_; clear pg_
      have kw0_ : Box w30 (gkw0) #[(.slice w0A0 w0n0 w0c0), (.slice w0A1 w0n1 w0c1), (.slice w0A2 w0n2 w0c2)] 37 := (Box.b kw0 b30)
      clear kw0; have kw0 := kw0_; clear kw0_
      have kg0_ : Box w30 (w13.heap.size) #[(.slice g0A0 g0n0 g0c0), (.slice g0A1 g0n1 g0c1), (.slice g0A2 g0n2 g0c2)] 37 := (Box.b kg0 b30)
      clear kg0; have kg0 := kg0_; clear kg0_
      clear hS hG
      refine Zc.cons fun gkh0 kh0 nkh0 => ?_
      have nkh0_0 := nkh0 (w28.heap.size, w29.heap.size) (by simp)
      dsimp only at nkh0_0 kh0
      have nkh0_1 := nkh0 (w26.heap.size, w27.heap.size) (by simp)
      dsimp only at nkh0_1 kh0
      have nkh0_2 := nkh0 (w24.heap.size, w25.heap.size) (by simp)
      dsimp only at nkh0_2 kh0
      have nkh0_3 := nkh0 (0, w23.heap.size) (by simp)
      dsimp only at nkh0_3 kh0
      clear nkh0
      refine Zc.nil ?_
      (try unfold ptr)
      (try simp only [Act.put, List.setIfInBounds_toArray, List.set_cons_zero, List.set_cons_succ])
      have lkh0 := kh0.lt
      obtain ⟨ckh0_0, ckh0_1, ckh0_2, fkh0_0, fkh0_1, fkh0_2⟩ := kh0.three
      refine ⟨_, by go_simp; (first | done | with_reducible rfl | exact ⟨rfl, rfl⟩), ?_⟩
      (try simp only [Act.put, List.setIfInBounds_toArray, List.set_cons_zero, List.set_cons_succ])
      refine onlyAny (i := 10) (by simp only [List.getElem?_toArray, List.getElem?_cons_succ, List.getElem?_cons_zero] <;> rfl) (by kernel_rfl) (by rfl) (by go_simp; (first | done | with_reducible rfl | exact ⟨rfl, rfl⟩)) ?_
      (try simp only [Act.put, List.setIfInBounds_toArray, List.set_cons_zero, List.set_cons_succ])
      refine wpAny_done (by kernel_rfl) ?_ _
      clear ckh0_0 ckh0_1 ckh0_2 fkh0_0 fkh0_1 fkh0_2
      generalize hw31 : World.setCell _ _ _ = w31
      have z31 : w30.heap.size ≤ w31.heap.size := by rw [← hw31]; simp
      have B31 : Below w.heap.size w w31 := by rw [← hw31]; repeat (with_reducible (first | assumption | exact Below.refl _ _ | refine Below.alloc ?_ (by first | omega | (simp; done) | (simp; omega)) _ | refine Below.setCell ?_ (by first | omega | (simp; done) | (simp; omega)) _ | refine Below.drew ?_ | refine below_drewN ?_ _))
      have hK : ∀ k, k ≠ gkh0 → k < w30.heap.size → w31.heap[k]? = w30.heap[k]? := by
        intro k h0 _; rw [← hw31]
        repeat (first | rfl | refine (Below.heap_setCell _ _ _ _ (by first | exact h0)).trans ?_)
      have rw0_ := rw0.keepBlock z31 (fun k h1 h2 => hK k (by omega) (by have := rw0.2.1; omega))
      clear rw0; have rw0 := rw0_; clear rw0_
      have rg0_ := rg0.keepBlock z31 (fun k h1 h2 => hK k (by omega) (by have := rg0.2.1; omega))
      clear rg0; have rg0 := rg0_; clear rg0_
      have rtc_ := rtc.keepBlock z31 (fun k h1 h2 => hK k (by omega) (by have := rtc.2.1; omega))
      clear rtc; have rtc := rtc_; clear rtc_
      have rtg_ := rtg.keepBlock z31 (fun k h1 h2 => hK k (by omega) (by have := rtg.2.1; omega))
      clear rtg; have rtg := rtg_; clear rtg_
      have rh0_ := rh0.keepBlock z31 (fun k h1 h2 => hK k (by omega) (by have := rh0.2.1; omega))
      clear rh0; have rh0 := rh0_; clear rh0_
      have pc_ : Box w31 (w.heap.size) #[(.slice cA0 cn0 cc0), (.slice cA1 cn1 cc1)] 63 := (by rw [← hw31]; exact (((pc.far (by omega)).far (by omega)).far (by omega)))
      clear pc; have pc := pc_; clear pc_
      have pg_ : Box w31 (w.heap.size + 1) #[.int .i64 gI0, (.slice gA1 gn1 gc1), (.slice gA2 gn2 gc2)] 75 := (by rw [← hw31]; exact (((pg.far (by omega)).far (by omega)).far (by omega)))
      clear pg; have pg := pg_; clear pg_
      have kw0_ : Box w31 (gkw0) #[(.slice w0A0 w0n0 w0c0), (.slice w0A1 w0n1 w0c1), (.slice w0A2 w0n2 w0c2)] 37 := (by rw [← hw31]; exact (((kw0.far (by omega)).far (by omega)).far (by omega)))
      clear kw0; have kw0 := kw0_; clear kw0_
      have kg0_ : Box w31 (w13.heap.size) #[(.slice g0A0 g0n0 g0c0), (.slice g0A1 g0n1 g0c1), (.slice g0A2 g0n2 g0c2)] 37 := (by rw [← hw31]; exact (((kg0.far (by omega)).far (by omega)).far (by omega)))
      clear kg0; have kg0 := kg0_; clear kg0_
      have kh0_ : Box w31 (gkh0) #[(.slice h0A0 h0n0 h0c0), (.slice h0A1 h0n1 h0c1), (.slice h0A2 h0n2 h0c2)] 37 := (by rw [← hw31]; exact (((kh0.setAt (i := 0) (v := (.slice h0A0 h0n0 h0c0)) (ds := #[(.slice h0A0 h0n0 h0c0), .slice none 0 0, .slice none 0 0]) (by simp)).setAt (i := 1) (v := (.slice h0A1 h0n1 h0c1)) (ds := #[(.slice h0A0 h0n0 h0c0), (.slice h0A1 h0n1 h0c1), .slice none 0 0]) (by simp)).setAt (i := 2) (v := (.slice h0A2 h0n2 h0c2)) (ds := #[(.slice h0A0 h0n0 h0c0), (.slice h0A1 h0n1 h0c1), (.slice h0A2 h0n2 h0c2)]) (by simp)))
      clear kh0; have kh0 := kh0_; clear kh0_
      clear hw31 hK
      obtain ⟨ckh0_0, ckh0_1, ckh0_2, fkh0_0, fkh0_1, fkh0_2⟩ := kh0.three
      have l_kh0_0 : gkh0 < w31.heap.size := by omega
      obtain ⟨ckw0_0, ckw0_1, ckw0_2, fkw0_0, fkw0_1, fkw0_2⟩ := kw0.three
      have l_kw0_0 : gkw0 < w31.heap.size := by omega
      go_wp2_with fail
      refine (eqPublic_L rh0.rd rw0.rd rL0_0n rL0_1n rL0_2n).mono ?_
      rintro e w32 ⟨rfl, b32⟩
      clear ckh0_0 ckh0_1 ckh0_2 fkh0_0 fkh0_1 fkh0_2 l_kh0_0 ckw0_0 ckw0_1 ckw0_2 fkw0_0 fkw0_1 fkw0_2 l_kw0_0
      have z32 := b32.size
      try simp only [World.size_alloc, World.size_setCell, size_drew] at z32
      have B32 : Below w.heap.size w w32 := Below.t b32
      have rw0_ := rw0.below b32
      clear rw0; have rw0 := rw0_; clear rw0_
      have rg0_ := rg0.below b32
      clear rg0; have rg0 := rg0_; clear rg0_
      have rh0_ := rh0.below b32
      clear rh0; have rh0 := rh0_; clear rh0_
      have pc_ : Box w32 (w.heap.size) #[(.slice cA0 cn0 cc0), (.slice cA1 cn1 cc1)] 63 := pc.below b32 (by first | omega | (simp [size_drew]; done) | (simp [size_drew]; omega))
      clear pc; have pc := pc_; clear pc_
      have pg_ : Box w32 (w.heap.size + 1) #[.int .i64 gI0, (.slice gA1 gn1 gc1), (.slice gA2 gn2 gc2)] 75 := pg.below b32 (by first | omega | (simp [size_drew]; done) | (simp [size_drew]; omega))
      clear pg; have pg := pg_; clear pg_
      have kw0_ : Box w32 (gkw0) #[(.slice w0A0 w0n0 w0c0), (.slice w0A1 w0n1 w0c1), (.slice w0A2 w0n2 w0c2)] 37 := kw0.below b32 (by first | omega | (simp [size_drew]; done) | (simp [size_drew]; omega))
      clear kw0; have kw0 := kw0_; clear kw0_
      have kg0_ : Box w32 (w13.heap.size) #[(.slice g0A0 g0n0 g0c0), (.slice g0A1 g0n1 g0c1), (.slice g0A2 g0n2 g0c2)] 37 := kg0.below b32 (by first | omega | (simp [size_drew]; done) | (simp [size_drew]; omega))
      clear kg0; have kg0 := kg0_; clear kg0_
      have kh0_ : Box w32 (gkh0) #[(.slice h0A0 h0n0 h0c0), (.slice h0A1 h0n1 h0c1), (.slice h0A2 h0n2 h0c2)] 37 := kh0.below b32 (by first | omega | (simp [size_drew]; done) | (simp [size_drew]; omega))
      clear kh0; have kh0 := kh0_; clear kh0_
      obtain ⟨ckg0_0, ckg0_1, ckg0_2, fkg0_0, fkg0_1, fkg0_2⟩ := kg0.three
      have l_kg0_0 : w13.heap.size < w32.heap.size := by omega
      go_wp2_with fail
      refine (heldPublic_L (puT cL0 cL1 gI0 gL1 gL2).length (puC cL0 cL1 gI0 gL1 gL2).length (puD cL0 cL1 gI0 gL1 gL2).length (1) _ rg0.rd (by first | omega | (simp [size_drew]; done) | (simp [size_drew]; omega)) (by omega) rL0_0n rL0_1n rL0_2n).mono ?_
      rintro e w33 ⟨rfl, b33⟩
      clear ckg0_0 ckg0_1 ckg0_2 fkg0_0 fkg0_1 fkg0_2 l_kg0_0
      have z33 := b33.size
      try simp only [World.size_alloc, World.size_setCell, size_drew] at z33
      have B33 : Below w.heap.size w w33 := Below.t b33
      have rw0_ := rw0.below b33
      clear rw0; have rw0 := rw0_; clear rw0_
      have rg0_ := rg0.below b33
      clear rg0; have rg0 := rg0_; clear rg0_
      have rh0_ := rh0.below b33
      clear rh0; have rh0 := rh0_; clear rh0_
      have pc_ : Box w33 (w.heap.size) #[(.slice cA0 cn0 cc0), (.slice cA1 cn1 cc1)] 63 := pc.below b33 (by first | omega | (simp [size_drew]; done) | (simp [size_drew]; omega))
      clear pc; have pc := pc_; clear pc_
      have pg_ : Box w33 (w.heap.size + 1) #[.int .i64 gI0, (.slice gA1 gn1 gc1), (.slice gA2 gn2 gc2)] 75 := pg.below b33 (by first | omega | (simp [size_drew]; done) | (simp [size_drew]; omega))
      clear pg; have pg := pg_; clear pg_
      have kw0_ : Box w33 (gkw0) #[(.slice w0A0 w0n0 w0c0), (.slice w0A1 w0n1 w0c1), (.slice w0A2 w0n2 w0c2)] 37 := kw0.below b33 (by first | omega | (simp [size_drew]; done) | (simp [size_drew]; omega))
      clear kw0; have kw0 := kw0_; clear kw0_
      have kg0_ : Box w33 (w13.heap.size) #[(.slice g0A0 g0n0 g0c0), (.slice g0A1 g0n1 g0c1), (.slice g0A2 g0n2 g0c2)] 37 := kg0.below b33 (by first | omega | (simp [size_drew]; done) | (simp [size_drew]; omega))
      clear kg0; have kg0 := kg0_; clear kg0_
      have kh0_ : Box w33 (gkh0) #[(.slice h0A0 h0n0 h0c0), (.slice h0A1 h0n1 h0c1), (.slice h0A2 h0n2 h0c2)] 37 := kh0.below b33 (by first | omega | (simp [size_drew]; done) | (simp [size_drew]; omega))
      clear kh0; have kh0 := kh0_; clear kh0_
      go_wp2_with fail
      go_ret
      exact ⟨rfl, B33⟩
    · skip
      go_enter Try.func15, Try.ntmps15
      go_wp2_with fail
      refine (szCircuit_yes cL0h.b cL1h.b (1048576) _ (by first | rfl | simp) (by omega) (by omega)).mono ?_
      rintro e w1 ⟨rfl, b1⟩
      have z1 := b1.size
      try simp only [World.size_alloc, World.size_setCell, size_drew] at z1
      have B1 : Below w.heap.size w w1 := Below.t b1
      have pc_ : Box w1 (w.heap.size) #[(.slice cA0 cn0 cc0), (.slice cA1 cn1 cc1)] 63 := ((Box.new (g := w.heap.size) _ #[(.slice cA0 cn0 cc0), (.slice cA1 cn1 cc1)] 63 (by simp)).alloc _).below b1 (by first | omega | (simp [size_drew]; done) | (simp [size_drew]; omega))
      have pc := pc_; clear pc_
      have pg_ : Box w1 (w.heap.size + 1) #[.int .i64 gI0, (.slice gA1 gn1 gc1), (.slice gA2 gn2 gc2)] 75 := (Box.new (g := w.heap.size + 1) _ #[.int .i64 gI0, (.slice gA1 gn1 gc1), (.slice gA2 gn2 gc2)] 75 (by simp)).below b1 (by first | omega | (simp [size_drew]; done) | (simp [size_drew]; omega))
      have pg := pg_; clear pg_
      obtain ⟨cpg_0, cpg_1, cpg_2, fpg_0, fpg_1, fpg_2⟩ := pg.three
      have l_pg_0 : w.heap.size + 1 < w1.heap.size := by omega
      go_wp2_with fail
      refine (szGarbled_no gI0 gL1h.b gL2h.b (1048576 - (cL0.length + cL1.length)) _ (by first | rfl | simp) (by omega) (by omega)).mono ?_
      rintro e w2 ⟨rfl, b2⟩
      clear cpg_0 cpg_1 cpg_2 fpg_0 fpg_1 fpg_2 l_pg_0
      have z2 := b2.size
      try simp only [World.size_alloc, World.size_setCell, size_drew] at z2
      have B2 : Below w.heap.size w w2 := Below.t b2
      have pc_ : Box w2 (w.heap.size) #[(.slice cA0 cn0 cc0), (.slice cA1 cn1 cc1)] 63 := pc.below b2 (by first | omega | (simp [size_drew]; done) | (simp [size_drew]; omega))
      clear pc; have pc := pc_; clear pc_
      have pg_ : Box w2 (w.heap.size + 1) #[.int .i64 gI0, (.slice gA1 gn1 gc1), (.slice gA2 gn2 gc2)] 75 := pg.below b2 (by first | omega | (simp [size_drew]; done) | (simp [size_drew]; omega))
      clear pg; have pg := pg_; clear pg_
      go_wp2
      go_ret
      exact ⟨rfl, B2⟩
  · skip
    go_enter Try.func15, Try.ntmps15
    go_wp2_with fail
    refine (szCircuit_no cL0h.b cL1h.b (1048576) _ (by first | rfl | simp) (by omega) (by omega)).mono ?_
    rintro e w1 ⟨rfl, b1⟩
    have z1 := b1.size
    try simp only [World.size_alloc, World.size_setCell, size_drew] at z1
    have B1 : Below w.heap.size w w1 := Below.t b1
    have pc_ : Box w1 (w.heap.size) #[(.slice cA0 cn0 cc0), (.slice cA1 cn1 cc1)] 63 := ((Box.new (g := w.heap.size) _ #[(.slice cA0 cn0 cc0), (.slice cA1 cn1 cc1)] 63 (by simp)).alloc _).below b1 (by first | omega | (simp [size_drew]; done) | (simp [size_drew]; omega))
    have pc := pc_; clear pc_
    have pg_ : Box w1 (w.heap.size + 1) #[.int .i64 gI0, (.slice gA1 gn1 gc1), (.slice gA2 gn2 gc2)] 75 := (Box.new (g := w.heap.size + 1) _ #[.int .i64 gI0, (.slice gA1 gn1 gc1), (.slice gA2 gn2 gc2)] 75 (by simp)).below b1 (by first | omega | (simp [size_drew]; done) | (simp [size_drew]; omega))
    have pg := pg_; clear pg_
    go_wp2
    go_ret
    exact ⟨rfl, B1⟩
end Go.Proofs.Ytodnahpegecpiaa

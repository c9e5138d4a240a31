/- The walk of the law FnExactOutputHashes. Printed by laws2.py. -/
import Derived.Test.YtodnahpegecpiaaOhs
import Derived.Test.YtodnahpegecpiaaOpenM
import Derived.Test.YtodnahpegecpiaaHk
import Derived.Test.YtodnahpegecpiaaAuto
namespace Go.Proofs.Ytodnahpegecpiaa
set_option linter.unusedSimpArgs false
set_option linter.unusedVariables false
open Go.RowKit
set_option maxRecDepth 100000 in
set_option maxHeartbeats 2000000 in
theorem walk_FnExactOutputHashes (cL0V : Value) (cL0 : List (Int × Int × Int)) (cL1V : Value) (cL1 : List Int) (gI0 : Int) (gL1V : Value) (gL1 : List Int) (gL2V : Value) (gL2 : List Int) (w : World) (cL0h : RdG0 w cL0V cL0) (cL1h : Rd0 w cL1V cL1) (gL1h : Rd0 w gL1V gL1) (gL2h : Rd0 w gL2V gL2) :
    Calls Try.prog 16 #[.agg #[cL0V, cL1V], .agg #[.int .i64 gI0, gL1V, gL2V]] w fun e w' => e = .returned (.bool true) ∧ Below w.heap.size w w' := by
  obtain ⟨cA0, cn0, cc0, rfl, cL0x, cL0I⟩ := cL0h
  have cL0h : RdG0 w (.slice cA0 cn0 cc0) cL0 := ⟨_, _, _, rfl, cL0x, cL0I⟩
  obtain ⟨cA1, cn1, cc1, rfl, cL1x, cL1I⟩ := cL1h
  have cL1h : Rd0 w (.slice cA1 cn1 cc1) cL1 := ⟨_, _, _, rfl, cL1x, cL1I⟩
  obtain ⟨gA1, gn1, gc1, rfl, gL1x, gL1I⟩ := gL1h
  have gL1h : Rd0 w (.slice gA1 gn1 gc1) gL1 := ⟨_, _, _, rfl, gL1x, gL1I⟩
  obtain ⟨gA2, gn2, gc2, rfl, gL2x, gL2I⟩ := gL2h
  have gL2h : Rd0 w (.slice gA2 gn2 gc2) gL2 := ⟨_, _, _, rfl, gL2x, gL2I⟩
  by_cases sz0 : (cL0.length + cL1.length) ≤ 1048576
  · skip
    by_cases sz1 : (cL0.length + cL1.length) + (gL1.length + gL2.length) ≤ 1048576
    · skip
      have cL0n : cL0.length ≤ 1048576 := by omega
      have cL1n : cL1.length ≤ 1048576 := by omega
      have gL1n : gL1.length ≤ 1048576 := by omega
      have gL2n : gL2.length ≤ 1048576 := by omega
      have rL0_0n : BdLL (ohL cL0 cL1 gI0 gL1 gL2) := ohL_bd _ _ _ _ cL1n
      have rL0_0s := BdLL.sum rL0_0n
      go_enter Try.func16, Try.ntmps16
      go_wp2_with fail
      refine (szCircuit_yes cL0h.b cL1h.b (1048576) _ (by first | rfl | simp) (by omega) (by omega)).mono ?_
      rintro e w1 ⟨rfl, b1⟩
      have z1 := b1.size
      try simp only [World.size_alloc, World.size_setCell, size_drew] at z1
      have B1 : Below w.heap.size w w1 := Below.t b1
      have pc_ : Box w1 (w.heap.size) #[(.slice cA0 cn0 cc0), (.slice cA1 cn1 cc1)] 63 := ((Box.new (g := w.heap.size) _ #[(.slice cA0 cn0 cc0), (.slice cA1 cn1 cc1)] 63 (by simp)).alloc _).below b1 (by first | omega | (simp [size_drew]; done) | (simp [size_drew]; omega))
      have pc := pc_; clear pc_
      have pg_ : Box w1 (w.heap.size + 1) #[.int .i64 gI0, (.slice gA1 gn1 gc1), (.slice gA2 gn2 gc2)] 75 := (Box.new (g := w.heap.size + 1) _ #[.int .i64 gI0, (.slice gA1 gn1 gc1), (.slice gA2 gn2 gc2)] 75 (by simp)).below b1 (by first | omega | (simp [size_drew]; done) | (simp [size_drew]; omega))
      have pg := pg_; clear pg_
      obtain ⟨cpg_0, cpg_1, cpg_2, fpg_0, fpg_1, fpg_2⟩ := pg.three
      have l_pg_0 : w.heap.size + 1 < w1.heap.size := by omega
      go_wp2_with fail
      refine (szGarbled_yes gI0 gL1h.b gL2h.b (1048576 - (cL0.length + cL1.length)) _ (by first | rfl | simp) (by omega) (by omega)).mono ?_
      rintro e w2 ⟨rfl, b2⟩
      clear cpg_0 cpg_1 cpg_2 fpg_0 fpg_1 fpg_2 l_pg_0
      have z2 := b2.size
      try simp only [World.size_alloc, World.size_setCell, size_drew] at z2
      have B2 : Below w.heap.size w w2 := Below.t b2
      have pc_ : Box w2 (w.heap.size) #[(.slice cA0 cn0 cc0), (.slice cA1 cn1 cc1)] 63 := pc.below b2 (by first | omega | (simp [size_drew]; done) | (simp [size_drew]; omega))
      clear pc; have pc := pc_; clear pc_
      have pg_ : Box w2 (w.heap.size + 1) #[.int .i64 gI0, (.slice gA1 gn1 gc1), (.slice gA2 gn2 gc2)] 75 := pg.below b2 (by first | omega | (simp [size_drew]; done) | (simp [size_drew]; omega))
      clear pg; have pg := pg_; clear pg_
      obtain ⟨cpc_0, cpc_1, fpc_0, fpc_1⟩ := pc.two
      have l_pc_0 : w.heap.size < w2.heap.size := by omega
      obtain ⟨cpg_0, cpg_1, cpg_2, fpg_0, fpg_1, fpg_2⟩ := pg.three
      have l_pg_0 : w.heap.size + 1 < w2.heap.size := by omega
      go_wp2_with fail
      clear cpc_0 cpc_1 fpc_0 fpc_1 l_pc_0 cpg_0 cpg_1 cpg_2 fpg_0 fpg_1 fpg_2 l_pg_0
      refine wp_region_held_drew (S := fun W => W.cell? ⟨w.heap.size, 0, none⟩ = some ((.slice cA0 cn0 cc0)) ∧ W.cell? ⟨w.heap.size, 1, none⟩ = some ((.slice cA1 cn1 cc1)) ∧ W.cell? ⟨w.heap.size + 1, 0, none⟩ = some (.int .i64 gI0) ∧ W.cell? ⟨w.heap.size + 1, 1, none⟩ = some ((.slice gA1 gn1 gc1)) ∧ W.cell? ⟨w.heap.size + 1, 2, none⟩ = some ((.slice gA2 gn2 gc2))) (by kernel_rfl) ⟨pc.drew.two.1, pc.drew.two.2.1, pg.drew.three.1, pg.drew.three.2.1, pg.drew.three.2.2.1⟩ (fun hS => ?_)
      (refine tk 0 hS ?_; (try simp only [Act.put, layA, layB, layC]))
      (refine tk 2 hS ?_; (try simp only [Act.put, layA, layB, layC]))
      refine on 1 ?_
      refine callH (by go_simp; (first | done | with_reducible rfl | exact ⟨rfl, rfl⟩)) ?_
      go_at_call 49
      refine (toCircuit_L (RdL.cons (d := .gates cL0) cL0h.rd.b (RdL.cons (d := .ints cL1) cL1h.rd.b RdL.nil)) cL0n cL1n).mono ?_
      rintro e w3 ⟨scA0, scn0, scc0, scA1, scn1, scc1, rfl, rsc, b3⟩
      clear hS
      have z3 := Below.size b3
      (try simp only [World.size_alloc, World.size_setCell, size_drew] at z3)
      have B3 : Below w.heap.size w w3 := Below.t b3
      have pc_ : Box w3 (w.heap.size) #[(.slice cA0 cn0 cc0), (.slice cA1 cn1 cc1)] 63 := (Box.b pc.drew b3)
      clear pc; have pc := pc_; clear pc_
      have pg_ : Box w3 (w.heap.size + 1) #[.int .i64 gI0, (.slice gA1 gn1 gc1), (.slice gA2 gn2 gc2)] 75 := (Box.b pg.drew b3)
      clear pg; have pg := pg_; clear pg_
      (try simp only [World.size_alloc, World.size_setCell, size_drew] at rsc)
      refine ⟨_, rfl, ⟨pc.two.1, pc.two.2.1, pg.three.1, pg.three.2.1, pg.three.2.2.1⟩, fun hS => ?_⟩
      (try simp only [Act.put, layA, layB, layC])
      refine on 3 ?_
      refine callH (by go_simp; (first | done | with_reducible rfl | exact ⟨rfl, rfl⟩)) ?_
      go_at_call 59
      refine (toGarbled_L gI0 (RdL.cons (d := .ints gL1) gL1h.rd.b (RdL.cons (d := .ints gL2) gL2h.rd.b RdL.nil)) gL1n gL2n).mono ?_
      rintro e w4 ⟨sgA1, sgn1, sgc1, sgA2, sgn2, sgc2, rfl, rsg, b4⟩
      clear hS
      have z4 := Below.size b4
      (try simp only [World.size_alloc, World.size_setCell, size_drew] at z4)
      have B4 : Below w.heap.size w w4 := Below.t b4
      have rsc_ := (rsc.below b4)
      clear rsc; have rsc := rsc_; clear rsc_
      have pc_ : Box w4 (w.heap.size) #[(.slice cA0 cn0 cc0), (.slice cA1 cn1 cc1)] 63 := (Box.b pc b4)
      clear pc; have pc := pc_; clear pc_
      have pg_ : Box w4 (w.heap.size + 1) #[.int .i64 gI0, (.slice gA1 gn1 gc1), (.slice gA2 gn2 gc2)] 75 := (Box.b pg b4)
      clear pg; have pg := pg_; clear pg_
      (try simp only [World.size_alloc, World.size_setCell, size_drew] at rsg)
      refine ⟨_, rfl, ⟨pc.two.1, pc.two.2.1, pg.three.1, pg.three.2.1, pg.three.2.2.1⟩, fun hS => ?_⟩
      (try simp only [Act.put, layA, layB, layC])
      refine on 4 ?_
      refine callH (by go_simp; (first | done | with_reducible rfl | exact ⟨rfl, rfl⟩)) ?_
      go_at_call 74
      refine (sOutputHashes_L rsc.rd cL0n cL1n gI0 rsg.rd gL1n gL2n).mono ?_
      rintro e w5 ⟨w0A0, w0n0, w0c0, rfl, rw0, b5⟩
      clear hS
      have z5 := Below.size b5
      (try simp only [World.size_alloc, World.size_setCell, size_drew] at z5)
      have B5 : Below w.heap.size w w5 := Below.t b5
      have rsc_ := (rsc.below b5)
      clear rsc; have rsc := rsc_; clear rsc_
      have rsg_ := (rsg.below b5)
      clear rsg; have rsg := rsg_; clear rsg_
      have pc_ : Box w5 (w.heap.size) #[(.slice cA0 cn0 cc0), (.slice cA1 cn1 cc1)] 63 := (Box.b pc b5)
      clear pc; have pc := pc_; clear pc_
      have pg_ : Box w5 (w.heap.size + 1) #[.int .i64 gI0, (.slice gA1 gn1 gc1), (.slice gA2 gn2 gc2)] 75 := (Box.b pg b5)
      clear pg; have pg := pg_; clear pg_
      (try simp only [World.size_alloc, World.size_setCell, size_drew] at rw0)
      refine ⟨_, rfl, ⟨pc.two.1, pc.two.2.1, pg.three.1, pg.three.2.1, pg.three.2.2.1⟩, fun hS => ?_⟩
      (try simp only [Act.put, layA, layB, layC])
      (refine tk 5 hS ?_; (try simp only [Act.put, layA, layB, layC]))
      clear hS
      refine wpAnyH_done (by kernel_rfl) ?_ _
      obtain ⟨cpc_0, cpc_1, fpc_0, fpc_1⟩ := pc.two
      have l_pc_0 : w.heap.size < w5.heap.size := by omega
      go_wp2_with fail
      refine (toCircuit_L (RdL.cons (d := .gates cL0) cL0h.rd.b (RdL.cons (d := .ints cL1) cL1h.rd.b RdL.nil)) cL0n cL1n).mono ?_
      rintro e w6 ⟨xcA0, xcn0, xcc0, xcA1, xcn1, xcc1, rfl, rxc, b6⟩
      clear cpc_0 cpc_1 fpc_0 fpc_1 l_pc_0
      have z6 := b6.size
      try simp only [World.size_alloc, World.size_setCell, size_drew] at z6
      have B6 : Below w.heap.size w w6 := Below.t b6
      have rw0_ := rw0.below b6
      clear rw0; have rw0 := rw0_; clear rw0_
      have pc_ : Box w6 (w.heap.size) #[(.slice cA0 cn0 cc0), (.slice cA1 cn1 cc1)] 63 := pc.below b6 (by first | omega | (simp [size_drew]; done) | (simp [size_drew]; omega))
      clear pc; have pc := pc_; clear pc_
      have pg_ : Box w6 (w.heap.size + 1) #[.int .i64 gI0, (.slice gA1 gn1 gc1), (.slice gA2 gn2 gc2)] 75 := pg.below b6 (by first | omega | (simp [size_drew]; done) | (simp [size_drew]; omega))
      clear pg; have pg := pg_; clear pg_
      try simp only [World.size_alloc, World.size_setCell, size_drew] at rxc
      obtain ⟨cpg_0, cpg_1, cpg_2, fpg_0, fpg_1, fpg_2⟩ := pg.three
      have l_pg_0 : w.heap.size + 1 < w6.heap.size := by omega
      have l_pg_1 : w.heap.size + 1 < w6.heap.size + 1 := by omega
      go_wp2_with fail
      refine (toGarbled_L gI0 (RdL.cons (d := .ints gL1) gL1h.rd.b (RdL.cons (d := .ints gL2) gL2h.rd.b RdL.nil)) gL1n gL2n).mono ?_
      rintro e w7 ⟨xgA1, xgn1, xgc1, xgA2, xgn2, xgc2, rfl, rxg, b7⟩
      clear cpg_0 cpg_1 cpg_2 fpg_0 fpg_1 fpg_2 l_pg_0 l_pg_1
      have z7 := b7.size
      try simp only [World.size_alloc, World.size_setCell, size_drew] at z7
      have B7 : Below w.heap.size w w7 := Below.t b7
      have rw0_ := (rw0.alloc _).below b7
      clear rw0; have rw0 := rw0_; clear rw0_
      have rxc_ := (rxc.alloc _).below b7
      clear rxc; have rxc := rxc_; clear rxc_
      have pc_ : Box w7 (w.heap.size) #[(.slice cA0 cn0 cc0), (.slice cA1 cn1 cc1)] 63 := (pc.alloc _).below b7 (by first | omega | (simp [size_drew]; done) | (simp [size_drew]; omega))
      clear pc; have pc := pc_; clear pc_
      have pg_ : Box w7 (w.heap.size + 1) #[.int .i64 gI0, (.slice gA1 gn1 gc1), (.slice gA2 gn2 gc2)] 75 := (pg.alloc _).below b7 (by first | omega | (simp [size_drew]; done) | (simp [size_drew]; omega))
      clear pg; have pg := pg_; clear pg_
      have xc_ : Box w7 (w6.heap.size) #[(.slice xcA0 xcn0 xcc0), (.slice xcA1 xcn1 xcc1)] 27 := (Box.new (g := w6.heap.size) _ #[(.slice xcA0 xcn0 xcc0), (.slice xcA1 xcn1 xcc1)] 27 (by simp)).below b7 (by first | omega | (simp [size_drew]; done) | (simp [size_drew]; omega))
      have xc := xc_; clear xc_
      try simp only [World.size_alloc, World.size_setCell, size_drew] at rxg
      obtain ⟨cxc_0, cxc_1, fxc_0, fxc_1⟩ := xc.two
      have l_xc_0 : w6.heap.size < w7.heap.size := by omega
      have l_xc_1 : w6.heap.size < w7.heap.size + 1 := by omega
      go_wp2_with fail
      refine (iOutputHashes_L (rxc.alloc _).rd cL0n cL1n gI0 (rxg.alloc _).rd gL1n gL2n).mono ?_
      rintro e w8 ⟨g0A0, g0n0, g0c0, rfl, rg0, b8⟩
      clear cxc_0 cxc_1 fxc_0 fxc_1 l_xc_0 l_xc_1
      have z8 := b8.size
      try simp only [World.size_alloc, World.size_setCell, size_drew] at z8
      have B8 : Below w.heap.size w w8 := Below.t b8
      have rw0_ := (rw0.alloc _).below b8
      clear rw0; have rw0 := rw0_; clear rw0_
      have rxc_ := (rxc.alloc _).below b8
      clear rxc; have rxc := rxc_; clear rxc_
      have rxg_ := (rxg.alloc _).below b8
      clear rxg; have rxg := rxg_; clear rxg_
      have pc_ : Box w8 (w.heap.size) #[(.slice cA0 cn0 cc0), (.slice cA1 cn1 cc1)] 63 := (pc.alloc _).below b8 (by first | omega | (simp [size_drew]; done) | (simp [size_drew]; omega))
      clear pc; have pc := pc_; clear pc_
      have pg_ : Box w8 (w.heap.size + 1) #[.int .i64 gI0, (.slice gA1 gn1 gc1), (.slice gA2 gn2 gc2)] 75 := (pg.alloc _).below b8 (by first | omega | (simp [size_drew]; done) | (simp [size_drew]; omega))
      clear pg; have pg := pg_; clear pg_
      have xc_ : Box w8 (w6.heap.size) #[(.slice xcA0 xcn0 xcc0), (.slice xcA1 xcn1 xcc1)] 27 := (xc.alloc _).below b8 (by first | omega | (simp [size_drew]; done) | (simp [size_drew]; omega))
      clear xc; have xc := xc_; clear xc_
      have xg_ : Box w8 (w7.heap.size) #[.int .i64 gI0, (.slice xgA1 xgn1 xgc1), (.slice xgA2 xgn2 xgc2)] 33 := (Box.new (g := w7.heap.size) _ #[.int .i64 gI0, (.slice xgA1 xgn1 xgc1), (.slice xgA2 xgn2 xgc2)] 33 (by simp)).below b8 (by first | omega | (simp [size_drew]; done) | (simp [size_drew]; omega))
      have xg := xg_; clear xg_
      try simp only [World.size_alloc, World.size_setCell, size_drew] at rg0
      go_wp2_with fail
      refine (eqIntSS_L rg0.rd rw0.rd rL0_0n).mono ?_
      rintro e w9 ⟨rfl, b9⟩
      have z9 := b9.size
      try simp only [World.size_alloc, World.size_setCell, size_drew] at z9
      have B9 : Below w.heap.size w w9 := Below.t b9
      have rw0_ := rw0.below b9
      clear rw0; have rw0 := rw0_; clear rw0_
      have rxc_ := rxc.below b9
      clear rxc; have rxc := rxc_; clear rxc_
      have rxg_ := rxg.below b9
      clear rxg; have rxg := rxg_; clear rxg_
      have rg0_ := rg0.below b9
      clear rg0; have rg0 := rg0_; clear rg0_
      have pc_ : Box w9 (w.heap.size) #[(.slice cA0 cn0 cc0), (.slice cA1 cn1 cc1)] 63 := pc.below b9 (by first | omega | (simp [size_drew]; done) | (simp [size_drew]; omega))
      clear pc; have pc := pc_; clear pc_
      have pg_ : Box w9 (w.heap.size + 1) #[.int .i64 gI0, (.slice gA1 gn1 gc1), (.slice gA2 gn2 gc2)] 75 := pg.below b9 (by first | omega | (simp [size_drew]; done) | (simp [size_drew]; omega))
      clear pg; have pg := pg_; clear pg_
      have xc_ : Box w9 (w6.heap.size) #[(.slice xcA0 xcn0 xcc0), (.slice xcA1 xcn1 xcc1)] 27 := xc.below b9 (by first | omega | (simp [size_drew]; done) | (simp [size_drew]; omega))
      clear xc; have xc := xc_; clear xc_
      have xg_ : Box w9 (w7.heap.size) #[.int .i64 gI0, (.slice xgA1 xgn1 xgc1), (.slice xgA2 xgn2 xgc2)] 33 := xg.below b9 (by first | omega | (simp [size_drew]; done) | (simp [size_drew]; omega))
      clear xg; have xg := xg_; clear xg_
      obtain ⟨cpc_0, cpc_1, fpc_0, fpc_1⟩ := pc.two
      have l_pc_0 : w.heap.size < w9.heap.size := by omega
      obtain ⟨cxc_0, cxc_1, fxc_0, fxc_1⟩ := xc.two
      have l_xc_0 : w6.heap.size < w9.heap.size := by omega
      go_wp2_with fail
      clear cpc_0 cpc_1 fpc_0 fpc_1 l_pc_0 cxc_0 cxc_1 fxc_0 fxc_1 l_xc_0
      refine wp_region_held_drew (S := fun W => W.cell? ⟨w.heap.size, 0, none⟩ = some ((.slice cA0 cn0 cc0)) ∧ W.cell? ⟨w.heap.size, 1, none⟩ = some ((.slice cA1 cn1 cc1)) ∧ W.cell? ⟨w6.heap.size, 0, none⟩ = some ((.slice xcA0 xcn0 xcc0)) ∧ W.cell? ⟨w6.heap.size, 1, none⟩ = some ((.slice xcA1 xcn1 xcc1))) (by kernel_rfl) ⟨pc.drew.two.1, pc.drew.two.2.1, xc.drew.two.1, xc.drew.two.2.1⟩ (fun hS => ?_)
      (refine tk 0 hS ?_; (try simp only [Act.put, layA, layB, layC]))
      (refine tk 1 hS ?_; (try simp only [Act.put, layA, layB, layC]))
      refine on 2 ?_
      refine callH (by go_simp; (first | done | with_reducible rfl | exact ⟨rfl, rfl⟩)) ?_
      go_at_call 49
      refine (toCircuit_L (RdL.cons (d := .gates cL0) cL0h.rd.b (RdL.cons (d := .ints cL1) cL1h.rd.b RdL.nil)) cL0n cL1n).mono ?_
      rintro e w10 ⟨zcA0, zcn0, zcc0, zcA1, zcn1, zcc1, rfl, rzc, b10⟩
      clear hS
      have z10 := Below.size b10
      (try simp only [World.size_alloc, World.size_setCell, size_drew] at z10)
      have B10 : Below w.heap.size w w10 := Below.t b10
      have rw0_ := (rw0.drew.below b10)
      clear rw0; have rw0 := rw0_; clear rw0_
      have rxc_ := (rxc.drew.below b10)
      clear rxc; have rxc := rxc_; clear rxc_
      have rxg_ := (rxg.drew.below b10)
      clear rxg; have rxg := rxg_; clear rxg_
      have rg0_ := (rg0.drew.below b10)
      clear rg0; have rg0 := rg0_; clear rg0_
      have pc_ : Box w10 (w.heap.size) #[(.slice cA0 cn0 cc0), (.slice cA1 cn1 cc1)] 63 := (Box.b pc.drew b10)
      clear pc; have pc := pc_; clear pc_
      have pg_ : Box w10 (w.heap.size + 1) #[.int .i64 gI0, (.slice gA1 gn1 gc1), (.slice gA2 gn2 gc2)] 75 := (Box.b pg.drew b10)
      clear pg; have pg := pg_; clear pg_
      have xc_ : Box w10 (w6.heap.size) #[(.slice xcA0 xcn0 xcc0), (.slice xcA1 xcn1 xcc1)] 27 := (Box.b xc.drew b10)
      clear xc; have xc := xc_; clear xc_
      have xg_ : Box w10 (w7.heap.size) #[.int .i64 gI0, (.slice xgA1 xgn1 xgc1), (.slice xgA2 xgn2 xgc2)] 33 := (Box.b xg.drew b10)
      clear xg; have xg := xg_; clear xg_
      (try simp only [World.size_alloc, World.size_setCell, size_drew] at rzc)
      refine ⟨_, rfl, ⟨pc.two.1, pc.two.2.1, xc.two.1, xc.two.2.1⟩, fun hS => ?_⟩
      (try simp only [Act.put, layA, layB, layC])
      refine on 3 ?_
      refine callH (by go_simp; (first | done | with_reducible rfl | exact ⟨rfl, rfl⟩)) ?_
      go_at_call 51
      refine (eqCircuit_L rxc.rd rzc.rd cL0n cL1n).mono ?_
      rintro e w11 ⟨rfl, b11⟩
      clear hS
      have z11 := Below.size b11
      (try simp only [World.size_alloc, World.size_setCell, size_drew] at z11)
      have B11 : Below w.heap.size w w11 := Below.t b11
      have rw0_ := (rw0.below b11)
      clear rw0; have rw0 := rw0_; clear rw0_
      have rxc_ := (rxc.below b11)
      clear rxc; have rxc := rxc_; clear rxc_
      have rxg_ := (rxg.below b11)
      clear rxg; have rxg := rxg_; clear rxg_
      have rg0_ := (rg0.below b11)
      clear rg0; have rg0 := rg0_; clear rg0_
      have rzc_ := (rzc.below b11)
      clear rzc; have rzc := rzc_; clear rzc_
      have pc_ : Box w11 (w.heap.size) #[(.slice cA0 cn0 cc0), (.slice cA1 cn1 cc1)] 63 := (Box.b pc b11)
      clear pc; have pc := pc_; clear pc_
      have pg_ : Box w11 (w.heap.size + 1) #[.int .i64 gI0, (.slice gA1 gn1 gc1), (.slice gA2 gn2 gc2)] 75 := (Box.b pg b11)
      clear pg; have pg := pg_; clear pg_
      have xc_ : Box w11 (w6.heap.size) #[(.slice xcA0 xcn0 xcc0), (.slice xcA1 xcn1 xcc1)] 27 := (Box.b xc b11)
      clear xc; have xc := xc_; clear xc_
      have xg_ : Box w11 (w7.heap.size) #[.int .i64 gI0, (.slice xgA1 xgn1 xgc1), (.slice xgA2 xgn2 xgc2)] 33 := (Box.b xg b11)
      clear xg; have xg := xg_; clear xg_
      refine ⟨_, rfl, ⟨pc.two.1, pc.two.2.1, xc.two.1, xc.two.2.1⟩, fun hS => ?_⟩
      (try simp only [Act.put, layA, layB, layC])
      (refine tk 4 hS ?_; (try simp only [Act.put, layA, layB, layC]))
      clear hS
      refine wpAnyH_done (by kernel_rfl) ?_ _
      obtain ⟨cpg_0, cpg_1, cpg_2, fpg_0, fpg_1, fpg_2⟩ := pg.three
      have l_pg_0 : w.heap.size + 1 < w11.heap.size := by omega
      obtain ⟨cxg_0, cxg_1, cxg_2, fxg_0, fxg_1, fxg_2⟩ := xg.three
      have l_xg_0 : w7.heap.size < w11.heap.size := by omega
      go_wp2_with fail
      clear cpg_0 cpg_1 cpg_2 fpg_0 fpg_1 fpg_2 l_pg_0 cxg_0 cxg_1 cxg_2 fxg_0 fxg_1 fxg_2 l_xg_0
      refine wp_region_held_drew (S := fun W => W.cell? ⟨w.heap.size + 1, 0, none⟩ = some (.int .i64 gI0) ∧ W.cell? ⟨w.heap.size + 1, 1, none⟩ = some ((.slice gA1 gn1 gc1)) ∧ W.cell? ⟨w.heap.size + 1, 2, none⟩ = some ((.slice gA2 gn2 gc2)) ∧ W.cell? ⟨w7.heap.size, 0, none⟩ = some (.int .i64 gI0) ∧ W.cell? ⟨w7.heap.size, 1, none⟩ = some ((.slice xgA1 xgn1 xgc1)) ∧ W.cell? ⟨w7.heap.size, 2, none⟩ = some ((.slice xgA2 xgn2 xgc2))) (by kernel_rfl) ⟨pg.drew.three.1, pg.drew.three.2.1, pg.drew.three.2.2.1, xg.drew.three.1, xg.drew.three.2.1, xg.drew.three.2.2.1⟩ (fun hS => ?_)
      (refine tk 0 hS ?_; (try simp only [Act.put, layA, layB, layC]))
      (refine tk 1 hS ?_; (try simp only [Act.put, layA, layB, layC]))
      refine on 2 ?_
      refine callH (by go_simp; (first | done | with_reducible rfl | exact ⟨rfl, rfl⟩)) ?_
      go_at_call 59
      refine (toGarbled_L gI0 (RdL.cons (d := .ints gL1) gL1h.rd.b (RdL.cons (d := .ints gL2) gL2h.rd.b RdL.nil)) gL1n gL2n).mono ?_
      rintro e w12 ⟨zgA1, zgn1, zgc1, zgA2, zgn2, zgc2, rfl, rzg, b12⟩
      clear hS
      have z12 := Below.size b12
      (try simp only [World.size_alloc, World.size_setCell, size_drew] at z12)
      have B12 : Below w.heap.size w w12 := Below.t b12
      have rw0_ := (rw0.drew.below b12)
      clear rw0; have rw0 := rw0_; clear rw0_
      have rxc_ := (rxc.drew.below b12)
      clear rxc; have rxc := rxc_; clear rxc_
      have rxg_ := (rxg.drew.below b12)
      clear rxg; have rxg := rxg_; clear rxg_
      have rg0_ := (rg0.drew.below b12)
      clear rg0; have rg0 := rg0_; clear rg0_
      have pc_ : Box w12 (w.heap.size) #[(.slice cA0 cn0 cc0), (.slice cA1 cn1 cc1)] 63 := (Box.b pc.drew b12)
      clear pc; have pc := pc_; clear pc_
      have pg_ : Box w12 (w.heap.size + 1) #[.int .i64 gI0, (.slice gA1 gn1 gc1), (.slice gA2 gn2 gc2)] 75 := (Box.b pg.drew b12)
      clear pg; have pg := pg_; clear pg_
      have xc_ : Box w12 (w6.heap.size) #[(.slice xcA0 xcn0 xcc0), (.slice xcA1 xcn1 xcc1)] 27 := (Box.b xc.drew b12)
      clear xc; have xc := xc_; clear xc_
      have xg_ : Box w12 (w7.heap.size) #[.int .i64 gI0, (.slice xgA1 xgn1 xgc1), (.slice xgA2 xgn2 xgc2)] 33 := (Box.b xg.drew b12)
      clear xg; have xg := xg_; clear xg_
      (try simp only [World.size_alloc, World.size_setCell, size_drew] at rzg)
      refine ⟨_, rfl, ⟨pg.three.1, pg.three.2.1, pg.three.2.2.1, xg.three.1, xg.three.2.1, xg.three.2.2.1⟩, fun hS => ?_⟩
      (try simp only [Act.put, layA, layB, layC])
      refine on 3 ?_
      refine callH (by go_simp; (first | done | with_reducible rfl | exact ⟨rfl, rfl⟩)) ?_
      go_at_call 61
      refine (eqGarbled_L gI0 rxg.rd rzg.rd gL1n gL2n).mono ?_
      rintro e w13 ⟨rfl, b13⟩
      clear hS
      have z13 := Below.size b13
      (try simp only [World.size_alloc, World.size_setCell, size_drew] at z13)
      have B13 : Below w.heap.size w w13 := Below.t b13
      have rw0_ := (rw0.below b13)
      clear rw0; have rw0 := rw0_; clear rw0_
      have rxc_ := (rxc.below b13)
      clear rxc; have rxc := rxc_; clear rxc_
      have rxg_ := (rxg.below b13)
      clear rxg; have rxg := rxg_; clear rxg_
      have rg0_ := (rg0.below b13)
      clear rg0; have rg0 := rg0_; clear rg0_
      have rzg_ := (rzg.below b13)
      clear rzg; have rzg := rzg_; clear rzg_
      have pc_ : Box w13 (w.heap.size) #[(.slice cA0 cn0 cc0), (.slice cA1 cn1 cc1)] 63 := (Box.b pc b13)
      clear pc; have pc := pc_; clear pc_
      have pg_ : Box w13 (w.heap.size + 1) #[.int .i64 gI0, (.slice gA1 gn1 gc1), (.slice gA2 gn2 gc2)] 75 := (Box.b pg b13)
      clear pg; have pg := pg_; clear pg_
      have xc_ : Box w13 (w6.heap.size) #[(.slice xcA0 xcn0 xcc0), (.slice xcA1 xcn1 xcc1)] 27 := (Box.b xc b13)
      clear xc; have xc := xc_; clear xc_
      have xg_ : Box w13 (w7.heap.size) #[.int .i64 gI0, (.slice xgA1 xgn1 xgc1), (.slice xgA2 xgn2 xgc2)] 33 := (Box.b xg b13)
      clear xg; have xg := xg_; clear xg_
      refine ⟨_, rfl, ⟨pg.three.1, pg.three.2.1, pg.three.2.2.1, xg.three.1, xg.three.2.1, xg.three.2.2.1⟩, fun hS => ?_⟩
      (try simp only [Act.put, layA, layB, layC])
      (refine tk 4 hS ?_; (try simp only [Act.put, layA, layB, layC]))
      clear hS
      refine wpAnyH_done (by kernel_rfl) ?_ _
      obtain ⟨cxc_0, cxc_1, fxc_0, fxc_1⟩ := xc.two
      have l_xc_0 : w6.heap.size < w13.heap.size := by omega
      go_wp2_with fail
      refine (markCircuit_L (1) _ rxc (by first | omega | (simp [size_drew]; done) | (simp [size_drew]; omega)) (by omega) cL0n cL1n).mono ?_
      rintro e w14 ⟨rfl, rxc, c14⟩
      clear cxc_0 cxc_1 fxc_0 fxc_1 l_xc_0
      have z14 := c14.size
      try simp only [World.size_alloc, World.size_setCell, size_drew] at z14
      have rw0_ := rw0.away c14 (by omega)
      clear rw0; have rw0 := rw0_; clear rw0_
      have rxg_ := rxg.away c14 (by omega)
      clear rxg; have rxg := rxg_; clear rxg_
      have rg0_ := rg0.away c14 (by omega)
      clear rg0; have rg0 := rg0_; clear rg0_
      have pc_ : Box w14 (w.heap.size) #[(.slice cA0 cn0 cc0), (.slice cA1 cn1 cc1)] 63 := pc.chg c14 (by omega)
      clear pc; have pc := pc_; clear pc_
      have pg_ : Box w14 (w.heap.size + 1) #[.int .i64 gI0, (.slice gA1 gn1 gc1), (.slice gA2 gn2 gc2)] 75 := pg.chg c14 (by omega)
      clear pg; have pg := pg_; clear pg_
      have xc_ : Box w14 (w6.heap.size) #[(.slice xcA0 xcn0 xcc0), (.slice xcA1 xcn1 xcc1)] 27 := xc.chg c14 (by omega)
      clear xc; have xc := xc_; clear xc_
      have xg_ : Box w14 (w7.heap.size) #[.int .i64 gI0, (.slice xgA1 xgn1 xgc1), (.slice xgA2 xgn2 xgc2)] 33 := xg.chg c14 (by omega)
      clear xg; have xg := xg_; clear xg_
      have B14 : Below w.heap.size w w14 := B13.trans (c14.below (by omega) (by omega))
      obtain ⟨cxg_0, cxg_1, cxg_2, fxg_0, fxg_1, fxg_2⟩ := xg.three
      have l_xg_0 : w7.heap.size < w14.heap.size := by omega
      go_wp2_with fail
      refine (markGarbled_L gI0 (1 + (3 * cL0.length + cL1.length)) _ rxg (by first | omega | (simp [size_drew]; done) | (simp [size_drew]; omega)) (by omega) gL1n gL2n).mono ?_
      rintro e w15 ⟨rfl, rxg, c15⟩
      clear cxg_0 cxg_1 cxg_2 fxg_0 fxg_1 fxg_2 l_xg_0
      have z15 := c15.size
      try simp only [World.size_alloc, World.size_setCell, size_drew] at z15
      have rw0_ := rw0.away c15 (by omega)
      clear rw0; have rw0 := rw0_; clear rw0_
      have rg0_ := rg0.away c15 (by omega)
      clear rg0; have rg0 := rg0_; clear rg0_
      have rxc_ := rxc.away c15 (by omega)
      clear rxc; have rxc := rxc_; clear rxc_
      have pc_ : Box w15 (w.heap.size) #[(.slice cA0 cn0 cc0), (.slice cA1 cn1 cc1)] 63 := pc.chg c15 (by omega)
      clear pc; have pc := pc_; clear pc_
      have pg_ : Box w15 (w.heap.size + 1) #[.int .i64 gI0, (.slice gA1 gn1 gc1), (.slice gA2 gn2 gc2)] 75 := pg.chg c15 (by omega)
      clear pg; have pg := pg_; clear pg_
      have xc_ : Box w15 (w6.heap.size) #[(.slice xcA0 xcn0 xcc0), (.slice xcA1 xcn1 xcc1)] 27 := xc.chg c15 (by omega)
      clear xc; have xc := xc_; clear xc_
      have xg_ : Box w15 (w7.heap.size) #[.int .i64 gI0, (.slice xgA1 xgn1 xgc1), (.slice xgA2 xgn2 xgc2)] 33 := xg.chg c15 (by omega)
      clear xg; have xg := xg_; clear xg_
      have B15 : Below w.heap.size w w15 := B14.trans (c15.below (by omega) (by omega))
      go_wp2_with fail
      refine (eqIntSS_L rg0.rd rw0.rd rL0_0n).mono ?_
      rintro e w16 ⟨rfl, b16⟩
      have z16 := b16.size
      try simp only [World.size_alloc, World.size_setCell, size_drew] at z16
      have B16 : Below w.heap.size w w16 := Below.t b16
      have rw0_ := rw0.below b16
      clear rw0; have rw0 := rw0_; clear rw0_
      have rg0_ := rg0.below b16
      clear rg0; have rg0 := rg0_; clear rg0_
      have rxc_ := rxc.below b16
      clear rxc; have rxc := rxc_; clear rxc_
      have rxg_ := rxg.below b16
      clear rxg; have rxg := rxg_; clear rxg_
      have pc_ : Box w16 (w.heap.size) #[(.slice cA0 cn0 cc0), (.slice cA1 cn1 cc1)] 63 := pc.below b16 (by first | omega | (simp [size_drew]; done) | (simp [size_drew]; omega))
      clear pc; have pc := pc_; clear pc_
      have pg_ : Box w16 (w.heap.size + 1) #[.int .i64 gI0, (.slice gA1 gn1 gc1), (.slice gA2 gn2 gc2)] 75 := pg.below b16 (by first | omega | (simp [size_drew]; done) | (simp [size_drew]; omega))
      clear pg; have pg := pg_; clear pg_
      have xc_ : Box w16 (w6.heap.size) #[(.slice xcA0 xcn0 xcc0), (.slice xcA1 xcn1 xcc1)] 27 := xc.below b16 (by first | omega | (simp [size_drew]; done) | (simp [size_drew]; omega))
      clear xc; have xc := xc_; clear xc_
      have xg_ : Box w16 (w7.heap.size) #[.int .i64 gI0, (.slice xgA1 xgn1 xgc1), (.slice xgA2 xgn2 xgc2)] 33 := xg.below b16 (by first | omega | (simp [size_drew]; done) | (simp [size_drew]; omega))
      clear xg; have xg := xg_; clear xg_
      go_wp2_with fail
      refine (markIntSS_L (1) _ rg0 (by first | omega | (simp [size_drew]; done) | (simp [size_drew]; omega)) (by omega) rL0_0n).mono ?_
      rintro e w17 ⟨rfl, rg0, c17⟩
      have z17 := c17.size
      try simp only [World.size_alloc, World.size_setCell, size_drew] at z17
      have rw0_ := rw0.away c17 (by omega)
      clear rw0; have rw0 := rw0_; clear rw0_
      have pc_ : Box w17 (w.heap.size) #[(.slice cA0 cn0 cc0), (.slice cA1 cn1 cc1)] 63 := pc.chg c17 (by omega)
      clear pc; have pc := pc_; clear pc_
      have pg_ : Box w17 (w.heap.size + 1) #[.int .i64 gI0, (.slice gA1 gn1 gc1), (.slice gA2 gn2 gc2)] 75 := pg.chg c17 (by omega)
      clear pg; have pg := pg_; clear pg_
      have B17 : Below w.heap.size w w17 := B16.trans (c17.below (by omega) (by omega))
      go_wp2_with fail
      refine (heldIntSS_L (ohL cL0 cL1 gI0 gL1 gL2) (1) _ rg0.rd (by first | omega | (simp [size_drew]; done) | (simp [size_drew]; omega)) (by omega) rL0_0n).mono ?_
      rintro e w_ ⟨rfl, rfl⟩
      obtain ⟨cpc_0, cpc_1, fpc_0, fpc_1⟩ := pc.two
      have l_pc_0 : w.heap.size < w17.heap.size := by omega
      obtain ⟨cpg_0, cpg_1, cpg_2, fpg_0, fpg_1, fpg_2⟩ := pg.three
      have l_pg_0 : w.heap.size + 1 < w17.heap.size := by omega
      go_wp2_with fail
      clear cpc_0 cpc_1 fpc_0 fpc_1 l_pc_0 cpg_0 cpg_1 cpg_2 fpg_0 fpg_1 fpg_2 l_pg_0
      refine wp_region_held_drew (S := fun W => W.cell? ⟨w.heap.size, 0, none⟩ = some ((.slice cA0 cn0 cc0)) ∧ W.cell? ⟨w.heap.size, 1, none⟩ = some ((.slice cA1 cn1 cc1)) ∧ W.cell? ⟨w.heap.size + 1, 0, none⟩ = some (.int .i64 gI0) ∧ W.cell? ⟨w.heap.size + 1, 1, none⟩ = some ((.slice gA1 gn1 gc1)) ∧ W.cell? ⟨w.heap.size + 1, 2, none⟩ = some ((.slice gA2 gn2 gc2))) (by kernel_rfl) ⟨pc.drew.two.1, pc.drew.two.2.1, pg.drew.three.1, pg.drew.three.2.1, pg.drew.three.2.2.1⟩ (fun hS => ?_)
      (refine tk 0 hS ?_; (try simp only [Act.put, layA, layB, layC]))
      (refine tk 2 hS ?_; (try simp only [Act.put, layA, layB, layC]))
      refine on 1 ?_
      refine callH (by go_simp; (first | done | with_reducible rfl | exact ⟨rfl, rfl⟩)) ?_
      go_at_call 49
      refine (toCircuit_L (RdL.cons (d := .gates cL0) cL0h.rd.b (RdL.cons (d := .ints cL1) cL1h.rd.b RdL.nil)) cL0n cL1n).mono ?_
      rintro e w18 ⟨tcA0, tcn0, tcc0, tcA1, tcn1, tcc1, rfl, rtc, b18⟩
      clear hS
      have z18 := Below.size b18
      (try simp only [World.size_alloc, World.size_setCell, size_drew] at z18)
      have B18 : Below w.heap.size w w18 := Below.t b18
      have rw0_ := (rw0.drew.below b18)
      clear rw0; have rw0 := rw0_; clear rw0_
      have rg0_ := (rg0.drew.below b18)
      clear rg0; have rg0 := rg0_; clear rg0_
      have pc_ : Box w18 (w.heap.size) #[(.slice cA0 cn0 cc0), (.slice cA1 cn1 cc1)] 63 := (Box.b pc.drew b18)
      clear pc; have pc := pc_; clear pc_
      have pg_ : Box w18 (w.heap.size + 1) #[.int .i64 gI0, (.slice gA1 gn1 gc1), (.slice gA2 gn2 gc2)] 75 := (Box.b pg.drew b18)
      clear pg; have pg := pg_; clear pg_
      (try simp only [World.size_alloc, World.size_setCell, size_drew] at rtc)
      refine ⟨_, rfl, ⟨pc.two.1, pc.two.2.1, pg.three.1, pg.three.2.1, pg.three.2.2.1⟩, fun hS => ?_⟩
      (try simp only [Act.put, layA, layB, layC])
      refine on 3 ?_
      refine callH (by go_simp; (first | done | with_reducible rfl | exact ⟨rfl, rfl⟩)) ?_
      go_at_call 59
      refine (toGarbled_L gI0 (RdL.cons (d := .ints gL1) gL1h.rd.b (RdL.cons (d := .ints gL2) gL2h.rd.b RdL.nil)) gL1n gL2n).mono ?_
      rintro e w19 ⟨tgA1, tgn1, tgc1, tgA2, tgn2, tgc2, rfl, rtg, b19⟩
      clear hS
      have z19 := Below.size b19
      (try simp only [World.size_alloc, World.size_setCell, size_drew] at z19)
      have B19 : Below w.heap.size w w19 := Below.t b19
      have rw0_ := (rw0.below b19)
      clear rw0; have rw0 := rw0_; clear rw0_
      have rg0_ := (rg0.below b19)
      clear rg0; have rg0 := rg0_; clear rg0_
      have rtc_ := (rtc.below b19)
      clear rtc; have rtc := rtc_; clear rtc_
      have pc_ : Box w19 (w.heap.size) #[(.slice cA0 cn0 cc0), (.slice cA1 cn1 cc1)] 63 := (Box.b pc b19)
      clear pc; have pc := pc_; clear pc_
      have pg_ : Box w19 (w.heap.size + 1) #[.int .i64 gI0, (.slice gA1 gn1 gc1), (.slice gA2 gn2 gc2)] 75 := (Box.b pg b19)
      clear pg; have pg := pg_; clear pg_
      (try simp only [World.size_alloc, World.size_setCell, size_drew] at rtg)
      refine ⟨_, rfl, ⟨pc.two.1, pc.two.2.1, pg.three.1, pg.three.2.1, pg.three.2.2.1⟩, fun hS => ?_⟩
      (try simp only [Act.put, layA, layB, layC])
      refine on 4 ?_
      refine callH (by go_simp; (first | done | with_reducible rfl | exact ⟨rfl, rfl⟩)) ?_
      go_at_call 75
      refine (iOutputHashes_L rtc.rd cL0n cL1n gI0 rtg.rd gL1n gL2n).mono ?_
      rintro e w20 ⟨h0A0, h0n0, h0c0, rfl, rh0, b20⟩
      clear hS
      have z20 := Below.size b20
      (try simp only [World.size_alloc, World.size_setCell, size_drew] at z20)
      have B20 : Below w.heap.size w w20 := Below.t b20
      have rw0_ := (rw0.below b20)
      clear rw0; have rw0 := rw0_; clear rw0_
      have rg0_ := (rg0.below b20)
      clear rg0; have rg0 := rg0_; clear rg0_
      have rtc_ := (rtc.below b20)
      clear rtc; have rtc := rtc_; clear rtc_
      have rtg_ := (rtg.below b20)
      clear rtg; have rtg := rtg_; clear rtg_
      have pc_ : Box w20 (w.heap.size) #[(.slice cA0 cn0 cc0), (.slice cA1 cn1 cc1)] 63 := (Box.b pc b20)
      clear pc; have pc := pc_; clear pc_
      have pg_ : Box w20 (w.heap.size + 1) #[.int .i64 gI0, (.slice gA1 gn1 gc1), (.slice gA2 gn2 gc2)] 75 := (Box.b pg b20)
      clear pg; have pg := pg_; clear pg_
      (try simp only [World.size_alloc, World.size_setCell, size_drew] at rh0)
      refine ⟨_, rfl, ⟨pc.two.1, pc.two.2.1, pg.three.1, pg.three.2.1, pg.three.2.2.1⟩, fun hS => ?_⟩
      (try simp only [Act.put, layA, layB, layC])
      (refine tk 5 hS ?_; (try simp only [Act.put, layA, layB, layC]))
      clear hS
      refine wpAnyH_done (by kernel_rfl) ?_ _
      go_wp2_with fail
      refine (eqIntSS_L rh0.rd rw0.rd rL0_0n).mono ?_
      rintro e w21 ⟨rfl, b21⟩
      have z21 := b21.size
      try simp only [World.size_alloc, World.size_setCell, size_drew] at z21
      have B21 : Below w.heap.size w w21 := Below.t b21
      have rw0_ := rw0.below b21
      clear rw0; have rw0 := rw0_; clear rw0_
      have rg0_ := rg0.below b21
      clear rg0; have rg0 := rg0_; clear rg0_
      have rh0_ := rh0.below b21
      clear rh0; have rh0 := rh0_; clear rh0_
      have pc_ : Box w21 (w.heap.size) #[(.slice cA0 cn0 cc0), (.slice cA1 cn1 cc1)] 63 := pc.below b21 (by first | omega | (simp [size_drew]; done) | (simp [size_drew]; omega))
      clear pc; have pc := pc_; clear pc_
      have pg_ : Box w21 (w.heap.size + 1) #[.int .i64 gI0, (.slice gA1 gn1 gc1), (.slice gA2 gn2 gc2)] 75 := pg.below b21 (by first | omega | (simp [size_drew]; done) | (simp [size_drew]; omega))
      clear pg; have pg := pg_; clear pg_
      go_wp2_with fail
      refine (heldIntSS_L (ohL cL0 cL1 gI0 gL1 gL2) (1) _ rg0.rd (by first | omega | (simp [size_drew]; done) | (simp [size_drew]; omega)) (by omega) rL0_0n).mono ?_
      rintro e w_ ⟨rfl, rfl⟩
      go_wp2_with fail
      go_ret
      exact ⟨rfl, B21⟩
    · skip
      go_enter Try.func16, Try.ntmps16
      go_wp2_with fail
      refine (szCircuit_yes cL0h.b cL1h.b (1048576) _ (by first | rfl | simp) (by omega) (by omega)).mono ?_
      rintro e w1 ⟨rfl, b1⟩
      have z1 := b1.size
      try simp only [World.size_alloc, World.size_setCell, size_drew] at z1
      have B1 : Below w.heap.size w w1 := Below.t b1
      have pc_ : Box w1 (w.heap.size) #[(.slice cA0 cn0 cc0), (.slice cA1 cn1 cc1)] 63 := ((Box.new (g := w.heap.size) _ #[(.slice cA0 cn0 cc0), (.slice cA1 cn1 cc1)] 63 (by simp)).alloc _).below b1 (by first | omega | (simp [size_drew]; done) | (simp [size_drew]; omega))
      have pc := pc_; clear pc_
      have pg_ : Box w1 (w.heap.size + 1) #[.int .i64 gI0, (.slice gA1 gn1 gc1), (.slice gA2 gn2 gc2)] 75 := (Box.new (g := w.heap.size + 1) _ #[.int .i64 gI0, (.slice gA1 gn1 gc1), (.slice gA2 gn2 gc2)] 75 (by simp)).below b1 (by first | omega | (simp [size_drew]; done) | (simp [size_drew]; omega))
      have pg := pg_; clear pg_
      obtain ⟨cpg_0, cpg_1, cpg_2, fpg_0, fpg_1, fpg_2⟩ := pg.three
      have l_pg_0 : w.heap.size + 1 < w1.heap.size := by omega
      go_wp2_with fail
      refine (szGarbled_no gI0 gL1h.b gL2h.b (1048576 - (cL0.length + cL1.length)) _ (by first | rfl | simp) (by omega) (by omega)).mono ?_
      rintro e w2 ⟨rfl, b2⟩
      clear cpg_0 cpg_1 cpg_2 fpg_0 fpg_1 fpg_2 l_pg_0
      have z2 := b2.size
      try simp only [World.size_alloc, World.size_setCell, size_drew] at z2
      have B2 : Below w.heap.size w w2 := Below.t b2
      have pc_ : Box w2 (w.heap.size) #[(.slice cA0 cn0 cc0), (.slice cA1 cn1 cc1)] 63 := pc.below b2 (by first | omega | (simp [size_drew]; done) | (simp [size_drew]; omega))
      clear pc; have pc := pc_; clear pc_
      have pg_ : Box w2 (w.heap.size + 1) #[.int .i64 gI0, (.slice gA1 gn1 gc1), (.slice gA2 gn2 gc2)] 75 := pg.below b2 (by first | omega | (simp [size_drew]; done) | (simp [size_drew]; omega))
      clear pg; have pg := pg_; clear pg_
      go_wp2
      go_ret
      exact ⟨rfl, B2⟩
  · skip
    go_enter Try.func16, Try.ntmps16
    go_wp2_with fail
    refine (szCircuit_no cL0h.b cL1h.b (1048576) _ (by first | rfl | simp) (by omega) (by omega)).mono ?_
    rintro e w1 ⟨rfl, b1⟩
    have z1 := b1.size
    try simp only [World.size_alloc, World.size_setCell, size_drew] at z1
    have B1 : Below w.heap.size w w1 := Below.t b1
    have pc_ : Box w1 (w.heap.size) #[(.slice cA0 cn0 cc0), (.slice cA1 cn1 cc1)] 63 := ((Box.new (g := w.heap.size) _ #[(.slice cA0 cn0 cc0), (.slice cA1 cn1 cc1)] 63 (by simp)).alloc _).below b1 (by first | omega | (simp [size_drew]; done) | (simp [size_drew]; omega))
    have pc := pc_; clear pc_
    have pg_ : Box w1 (w.heap.size + 1) #[.int .i64 gI0, (.slice gA1 gn1 gc1), (.slice gA2 gn2 gc2)] 75 := (Box.new (g := w.heap.size + 1) _ #[.int .i64 gI0, (.slice gA1 gn1 gc1), (.slice gA2 gn2 gc2)] 75 (by simp)).below b1 (by first | omega | (simp [size_drew]; done) | (simp [size_drew]; omega))
    have pg := pg_; clear pg_
    go_wp2
    go_ret
    exact ⟨rfl, B1⟩
end Go.Proofs.Ytodnahpegecpiaa

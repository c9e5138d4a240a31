/- The walk of the law FnExactRunGarbled. Printed by laws2.py. -/
import Derived.Test.YtodnahpegecpiaaRug
import Derived.Test.YtodnahpegecpiaaHk
import Derived.Test.YtodnahpegecpiaaAuto
namespace Go.Proofs.Ytodnahpegecpiaa
set_option linter.unusedSimpArgs false
set_option linter.unusedVariables false
open Go.RowKit
set_option maxRecDepth 100000 in
set_option maxHeartbeats 2000000 in
theorem walk_FnExactRunGarbled (cL0V : Value) (cL0 : List (Int × Int × Int)) (cL1V : Value) (cL1 : List Int) (tI0 : Int) (tI1 : Int) (yL0V : Value) (yL0 : List Int) (w : World) (cL0h : RdG0 w cL0V cL0) (cL1h : Rd0 w cL1V cL1) (yL0h : Rd0 w yL0V yL0) :
    Calls Try.prog 21 #[.agg #[cL0V, cL1V], .agg #[.int .i64 tI0, .int .i64 tI1], yL0V] w fun e w' => e = .returned (.bool true) ∧ Below w.heap.size w w' := by
  obtain ⟨cA0, cn0, cc0, rfl, cL0x, cL0I⟩ := cL0h
  have cL0h : RdG0 w (.slice cA0 cn0 cc0) cL0 := ⟨_, _, _, rfl, cL0x, cL0I⟩
  obtain ⟨cA1, cn1, cc1, rfl, cL1x, cL1I⟩ := cL1h
  have cL1h : Rd0 w (.slice cA1 cn1 cc1) cL1 := ⟨_, _, _, rfl, cL1x, cL1I⟩
  obtain ⟨yA0, yn0, yc0, rfl, yL0x, yL0I⟩ := yL0h
  have yL0h : Rd0 w (.slice yA0 yn0 yc0) yL0 := ⟨_, _, _, rfl, yL0x, yL0I⟩
  by_cases yL0b : (1048576 : Int) < yn0
  · go_enter Try.func21, Try.ntmps21
    go_wp2
    go_ret
    refine ⟨rfl, ?_⟩
    repeat (first | exact Below.refl _ _ | refine Below.alloc ?_ (by first | omega | (simp; done) | (simp; omega)) _ | refine Below.setCell ?_ (by first | omega | (simp; done) | (simp; omega)) _ | refine Below.drew ?_ | refine below_drewN ?_ _ | refine Below.trans ?_ (hb30.mono (by first | omega | (simp; done) | (simp; omega))) | refine Below.trans ?_ (hb29.mono (by first | omega | (simp; done) | (simp; omega))) | refine Below.trans ?_ (hb28.mono (by first | omega | (simp; done) | (simp; omega))) | refine Below.trans ?_ (hb27.mono (by first | omega | (simp; done) | (simp; omega))) | refine Below.trans ?_ (hb26.mono (by first | omega | (simp; done) | (simp; omega))) | refine Below.trans ?_ (hb25.mono (by first | omega | (simp; done) | (simp; omega))) | refine Below.trans ?_ (hb24.mono (by first | omega | (simp; done) | (simp; omega))) | refine Below.trans ?_ (hb23.mono (by first | omega | (simp; done) | (simp; omega))) | refine Below.trans ?_ (hb22.mono (by first | omega | (simp; done) | (simp; omega))) | refine Below.trans ?_ (hb21.mono (by first | omega | (simp; done) | (simp; omega))) | refine Below.trans ?_ (hb20.mono (by first | omega | (simp; done) | (simp; omega))) | refine Below.trans ?_ (hb19.mono (by first | omega | (simp; done) | (simp; omega))) | refine Below.trans ?_ (hb18.mono (by first | omega | (simp; done) | (simp; omega))) | refine Below.trans ?_ (hb17.mono (by first | omega | (simp; done) | (simp; omega))) | refine Below.trans ?_ (hb16.mono (by first | omega | (simp; done) | (simp; omega))) | refine Below.trans ?_ (hb15.mono (by first | omega | (simp; done) | (simp; omega))) | refine Below.trans ?_ (hb14.mono (by first | omega | (simp; done) | (simp; omega))) | refine Below.trans ?_ (hb13.mono (by first | omega | (simp; done) | (simp; omega))) | refine Below.trans ?_ (hb12.mono (by first | omega | (simp; done) | (simp; omega))) | refine Below.trans ?_ (hb11.mono (by first | omega | (simp; done) | (simp; omega))) | refine Below.trans ?_ (hb10.mono (by first | omega | (simp; done) | (simp; omega))) | refine Below.trans ?_ (hb9.mono (by first | omega | (simp; done) | (simp; omega))) | refine Below.trans ?_ (hb8.mono (by first | omega | (simp; done) | (simp; omega))) | refine Below.trans ?_ (hb7.mono (by first | omega | (simp; done) | (simp; omega))) | refine Below.trans ?_ (hb6.mono (by first | omega | (simp; done) | (simp; omega))) | refine Below.trans ?_ (hb5.mono (by first | omega | (simp; done) | (simp; omega))) | refine Below.trans ?_ (hb4.mono (by first | omega | (simp; done) | (simp; omega))) | refine Below.trans ?_ (hb3.mono (by first | omega | (simp; done) | (simp; omega))) | refine Below.trans ?_ (hb2.mono (by first | omega | (simp; done) | (simp; omega))) | refine Below.trans ?_ (hb1.mono (by first | omega | (simp; done) | (simp; omega))))
  · skip
    have yL0n : yL0.length ≤ 1048576 := by rw [yL0I.len]; omega
    by_cases sz0 : (cL0.length + cL1.length) ≤ 1048576
    · skip
      have cL0n : cL0.length ≤ 1048576 := by omega
      have cL1n : cL1.length ≤ 1048576 := by omega
      have rL0_0n : (rgL cL0 cL1 tI0 tI1 yL0).length ≤ 1048576 := Nat.le_trans (rgL_len _ _ _ _ _) cL1n
      go_enter Try.func21, Try.ntmps21
      go_wp2_with fail
      refine (szCircuit_yes cL0h.b cL1h.b (1048576) _ (by first | rfl | simp) (by omega) (by omega)).mono ?_
      rintro e w1 ⟨rfl, b1⟩
      have z1 := b1.size
      try simp only [World.size_alloc, World.size_setCell, size_drew] at z1
      have B1 : Below w.heap.size w w1 := Below.t b1
      have pc_ : Box w1 (w.heap.size) #[(.slice cA0 cn0 cc0), (.slice cA1 cn1 cc1)] 63 := ((Box.new (g := w.heap.size) _ #[(.slice cA0 cn0 cc0), (.slice cA1 cn1 cc1)] 63 (by simp)).alloc _).below b1 (by first | omega | (simp [size_drew]; done) | (simp [size_drew]; omega))
      have pc := pc_; clear pc_
      have pt_ : Box w1 (w.heap.size + 1) #[.int .i64 tI0, .int .i64 tI1] 69 := (Box.new (g := w.heap.size + 1) _ #[.int .i64 tI0, .int .i64 tI1] 69 (by simp)).below b1 (by first | omega | (simp [size_drew]; done) | (simp [size_drew]; omega))
      have pt := pt_; clear pt_
      obtain ⟨cpc_0, cpc_1, fpc_0, fpc_1⟩ := pc.two
      have l_pc_0 : w.heap.size < w1.heap.size := by omega
      obtain ⟨cpt_0, cpt_1, fpt_0, fpt_1⟩ := pt.two
      have l_pt_0 : w.heap.size + 1 < w1.heap.size := by omega
      go_wp2_with fail
      clear cpc_0 cpc_1 fpc_0 fpc_1 l_pc_0 cpt_0 cpt_1 fpt_0 fpt_1 l_pt_0
      refine wp_region_held_drew (S := fun W => W.cell? ⟨w.heap.size, 0, none⟩ = some ((.slice cA0 cn0 cc0)) ∧ W.cell? ⟨w.heap.size, 1, none⟩ = some ((.slice cA1 cn1 cc1)) ∧ W.cell? ⟨w.heap.size + 1, 0, none⟩ = some (.int .i64 tI0) ∧ W.cell? ⟨w.heap.size + 1, 1, none⟩ = some (.int .i64 tI1)) (by kernel_rfl) ⟨pc.drew.two.1, pc.drew.two.2.1, pt.drew.two.1, pt.drew.two.2.1⟩ (fun hS => ?_)
      (refine tk 0 hS ?_; (try simp only [Act.put, List.setIfInBounds_toArray, List.set_cons_zero, List.set_cons_succ]))
      (refine tk 2 hS ?_; (try simp only [Act.put, List.setIfInBounds_toArray, List.set_cons_zero, List.set_cons_succ]))
      (refine tk 4 hS ?_; (try simp only [Act.put, List.setIfInBounds_toArray, List.set_cons_zero, List.set_cons_succ]))
      refine on 1 ?_
      refine callH (by go_simp; (first | done | with_reducible rfl | exact ⟨rfl, rfl⟩)) ?_
      go_at_call 49
      refine (toCircuit_L (RdL.cons (d := .gates cL0) cL0h.rd.b (RdL.cons (d := .ints cL1) cL1h.rd.b RdL.nil)) cL0n cL1n).mono ?_
      rintro e w2 ⟨scA0, scn0, scc0, scA1, scn1, scc1, rfl, rsc, b2⟩
      clear hS
      have z2 := Below.size b2
      (try simp only [World.size_alloc, World.size_setCell, size_drew] at z2)
      have B2 : Below w.heap.size w w2 := Below.t b2
      have pc_ : Box w2 (w.heap.size) #[(.slice cA0 cn0 cc0), (.slice cA1 cn1 cc1)] 63 := (Box.b pc.drew b2)
      clear pc; have pc := pc_; clear pc_
      have pt_ : Box w2 (w.heap.size + 1) #[.int .i64 tI0, .int .i64 tI1] 69 := (Box.b pt.drew b2)
      clear pt; have pt := pt_; clear pt_
      (try simp only [World.size_alloc, World.size_setCell, size_drew] at rsc)
      refine ⟨_, rfl, ⟨pc.two.1, pc.two.2.1, pt.two.1, pt.two.2.1⟩, fun hS => ?_⟩
      (try simp only [Act.put, List.setIfInBounds_toArray, List.set_cons_zero, List.set_cons_succ])
      refine on 3 ?_
      refine callH (by go_simp; (first | done | with_reducible rfl | exact ⟨rfl, rfl⟩)) ?_
      go_at_call 54
      refine (toTape_L tI0 tI1).mono ?_
      rintro e w3 ⟨rfl, b3⟩
      clear hS
      have z3 := Below.size b3
      (try simp only [World.size_alloc, World.size_setCell, size_drew] at z3)
      have B3 : Below w.heap.size w w3 := Below.t b3
      have rsc_ := (rsc.below b3)
      clear rsc; have rsc := rsc_; clear rsc_
      have pc_ : Box w3 (w.heap.size) #[(.slice cA0 cn0 cc0), (.slice cA1 cn1 cc1)] 63 := (Box.b pc b3)
      clear pc; have pc := pc_; clear pc_
      have pt_ : Box w3 (w.heap.size + 1) #[.int .i64 tI0, .int .i64 tI1] 69 := (Box.b pt b3)
      clear pt; have pt := pt_; clear pt_
      refine ⟨_, rfl, ⟨pc.two.1, pc.two.2.1, pt.two.1, pt.two.2.1⟩, fun hS => ?_⟩
      (try simp only [Act.put, List.setIfInBounds_toArray, List.set_cons_zero, List.set_cons_succ])
      refine on 5 ?_
      refine callH (by go_simp; (first | done | with_reducible rfl | exact ⟨rfl, rfl⟩)) ?_
      go_at_call 35
      refine (toIntS_L (RdL.cons (d := .ints yL0) yL0h.rd.b RdL.nil) yL0n).mono ?_
      rintro e w4 ⟨syA0, syn0, syc0, rfl, rsy, b4⟩
      clear hS
      have z4 := Below.size b4
      (try simp only [World.size_alloc, World.size_setCell, size_drew] at z4)
      have B4 : Below w.heap.size w w4 := Below.t b4
      have rsc_ := (rsc.below b4)
      clear rsc; have rsc := rsc_; clear rsc_
      have pc_ : Box w4 (w.heap.size) #[(.slice cA0 cn0 cc0), (.slice cA1 cn1 cc1)] 63 := (Box.b pc b4)
      clear pc; have pc := pc_; clear pc_
      have pt_ : Box w4 (w.heap.size + 1) #[.int .i64 tI0, .int .i64 tI1] 69 := (Box.b pt b4)
      clear pt; have pt := pt_; clear pt_
      (try simp only [World.size_alloc, World.size_setCell, size_drew] at rsy)
      refine ⟨_, rfl, ⟨pc.two.1, pc.two.2.1, pt.two.1, pt.two.2.1⟩, fun hS => ?_⟩
      (try simp only [Act.put, List.setIfInBounds_toArray, List.set_cons_zero, List.set_cons_succ])
      refine on 6 ?_
      refine callH (by go_simp; (first | done | with_reducible rfl | exact ⟨rfl, rfl⟩)) ?_
      go_at_call 81
      refine (sRunGarbled_L rsc.rd cL0n cL1n tI0 tI1 rsy.rd yL0n).mono ?_
      rintro e w5 ⟨w0A0, w0n0, w0c0, rfl, rw0, b5⟩
      clear hS
      have z5 := Below.size b5
      (try simp only [World.size_alloc, World.size_setCell, size_drew] at z5)
      have B5 : Below w.heap.size w w5 := Below.t b5
      have rsc_ := (rsc.below b5)
      clear rsc; have rsc := rsc_; clear rsc_
      have rsy_ := (rsy.below b5)
      clear rsy; have rsy := rsy_; clear rsy_
      have pc_ : Box w5 (w.heap.size) #[(.slice cA0 cn0 cc0), (.slice cA1 cn1 cc1)] 63 := (Box.b pc b5)
      clear pc; have pc := pc_; clear pc_
      have pt_ : Box w5 (w.heap.size + 1) #[.int .i64 tI0, .int .i64 tI1] 69 := (Box.b pt b5)
      clear pt; have pt := pt_; clear pt_
      (try simp only [World.size_alloc, World.size_setCell, size_drew] at rw0)
      refine ⟨_, rfl, ⟨pc.two.1, pc.two.2.1, pt.two.1, pt.two.2.1⟩, fun hS => ?_⟩
      (try simp only [Act.put, List.setIfInBounds_toArray, List.set_cons_zero, List.set_cons_succ])
      (refine tk 7 hS ?_; (try simp only [Act.put, List.setIfInBounds_toArray, List.set_cons_zero, List.set_cons_succ]))
      (refine tk 8 hS ?_; (try simp only [Act.put, List.setIfInBounds_toArray, List.set_cons_zero, List.set_cons_succ]))
      (refine tk 9 hS ?_; (try simp only [Act.put, List.setIfInBounds_toArray, List.set_cons_zero, List.set_cons_succ]))
      (refine tk 10 hS ?_; (try simp only [Act.put, List.setIfInBounds_toArray, List.set_cons_zero, List.set_cons_succ]))
      (refine tk 11 hS ?_; (try simp only [Act.put, List.setIfInBounds_toArray, List.set_cons_zero, List.set_cons_succ]))
      clear hS
      refine wpAnyH_done (by kernel_rfl) ?_ _
      obtain ⟨cpc_0, cpc_1, fpc_0, fpc_1⟩ := pc.two
      have l_pc_0 : w.heap.size < w5.heap.size := by omega
      go_wp2_with fail
      refine (toCircuit_L (RdL.cons (d := .gates cL0) cL0h.rd.b (RdL.cons (d := .ints cL1) cL1h.rd.b RdL.nil)) cL0n cL1n).mono ?_
      rintro e w6 ⟨xcA0, xcn0, xcc0, xcA1, xcn1, xcc1, rfl, rxc, b6⟩
      clear cpc_0 cpc_1 fpc_0 fpc_1 l_pc_0
      have z6 := b6.size
      try simp only [World.size_alloc, World.size_setCell, size_drew] at z6
      have B6 : Below w.heap.size w w6 := Below.t b6
      have rw0_ := rw0.below b6
      clear rw0; have rw0 := rw0_; clear rw0_
      have pc_ : Box w6 (w.heap.size) #[(.slice cA0 cn0 cc0), (.slice cA1 cn1 cc1)] 63 := pc.below b6 (by first | omega | (simp [size_drew]; done) | (simp [size_drew]; omega))
      clear pc; have pc := pc_; clear pc_
      have pt_ : Box w6 (w.heap.size + 1) #[.int .i64 tI0, .int .i64 tI1] 69 := pt.below b6 (by first | omega | (simp [size_drew]; done) | (simp [size_drew]; omega))
      clear pt; have pt := pt_; clear pt_
      try simp only [World.size_alloc, World.size_setCell, size_drew] at rxc
      go_wp2_with fail
      refine (toIntS_L (RdL.cons (d := .ints yL0) yL0h.rd.b RdL.nil) yL0n).mono ?_
      rintro e w7 ⟨xyA0, xyn0, xyc0, rfl, rxy, b7⟩
      have z7 := b7.size
      try simp only [World.size_alloc, World.size_setCell, size_drew] at z7
      have B7 : Below w.heap.size w w7 := Below.t b7
      have rw0_ := (rw0.alloc _).below b7
      clear rw0; have rw0 := rw0_; clear rw0_
      have rxc_ := (rxc.alloc _).below b7
      clear rxc; have rxc := rxc_; clear rxc_
      have pc_ : Box w7 (w.heap.size) #[(.slice cA0 cn0 cc0), (.slice cA1 cn1 cc1)] 63 := (pc.alloc _).below b7 (by first | omega | (simp [size_drew]; done) | (simp [size_drew]; omega))
      clear pc; have pc := pc_; clear pc_
      have pt_ : Box w7 (w.heap.size + 1) #[.int .i64 tI0, .int .i64 tI1] 69 := (pt.alloc _).below b7 (by first | omega | (simp [size_drew]; done) | (simp [size_drew]; omega))
      clear pt; have pt := pt_; clear pt_
      have xc_ : Box w7 (w6.heap.size) #[(.slice xcA0 xcn0 xcc0), (.slice xcA1 xcn1 xcc1)] 27 := (Box.new (g := w6.heap.size) _ #[(.slice xcA0 xcn0 xcc0), (.slice xcA1 xcn1 xcc1)] 27 (by simp)).below b7 (by first | omega | (simp [size_drew]; done) | (simp [size_drew]; omega))
      have xc := xc_; clear xc_
      try simp only [World.size_alloc, World.size_setCell, size_drew] at rxy
      obtain ⟨cxc_0, cxc_1, fxc_0, fxc_1⟩ := xc.two
      have l_xc_0 : w6.heap.size < w7.heap.size := by omega
      obtain ⟨cpt_0, cpt_1, fpt_0, fpt_1⟩ := pt.two
      have l_pt_0 : w.heap.size + 1 < w7.heap.size := by omega
      go_wp2_with fail
      clear cxc_0 cxc_1 fxc_0 fxc_1 l_xc_0 cpt_0 cpt_1 fpt_0 fpt_1 l_pt_0
      refine wp_region_held_drew (S := fun W => W.cell? ⟨w6.heap.size, 0, none⟩ = some ((.slice xcA0 xcn0 xcc0)) ∧ W.cell? ⟨w6.heap.size, 1, none⟩ = some ((.slice xcA1 xcn1 xcc1)) ∧ W.cell? ⟨w.heap.size + 1, 0, none⟩ = some (.int .i64 tI0) ∧ W.cell? ⟨w.heap.size + 1, 1, none⟩ = some (.int .i64 tI1)) (by kernel_rfl) ⟨xc.drew.two.1, xc.drew.two.2.1, pt.drew.two.1, pt.drew.two.2.1⟩ (fun hS => ?_)
      (refine tk 0 hS ?_; (try simp only [Act.put, List.setIfInBounds_toArray, List.set_cons_zero, List.set_cons_succ]))
      (refine tk 1 hS ?_; (try simp only [Act.put, List.setIfInBounds_toArray, List.set_cons_zero, List.set_cons_succ]))
      (refine tk 3 hS ?_; (try simp only [Act.put, List.setIfInBounds_toArray, List.set_cons_zero, List.set_cons_succ]))
      refine on 2 ?_
      refine callH (by go_simp; (first | done | with_reducible rfl | exact ⟨rfl, rfl⟩)) ?_
      go_at_call 54
      refine (toTape_L tI0 tI1).mono ?_
      rintro e w8 ⟨rfl, b8⟩
      clear hS
      have z8 := Below.size b8
      (try simp only [World.size_alloc, World.size_setCell, size_drew] at z8)
      have B8 : Below w.heap.size w w8 := Below.t b8
      have rw0_ := (rw0.drew.below b8)
      clear rw0; have rw0 := rw0_; clear rw0_
      have rxc_ := (rxc.drew.below b8)
      clear rxc; have rxc := rxc_; clear rxc_
      have rxy_ := (rxy.drew.below b8)
      clear rxy; have rxy := rxy_; clear rxy_
      have pc_ : Box w8 (w.heap.size) #[(.slice cA0 cn0 cc0), (.slice cA1 cn1 cc1)] 63 := (Box.b pc.drew b8)
      clear pc; have pc := pc_; clear pc_
      have pt_ : Box w8 (w.heap.size + 1) #[.int .i64 tI0, .int .i64 tI1] 69 := (Box.b pt.drew b8)
      clear pt; have pt := pt_; clear pt_
      have xc_ : Box w8 (w6.heap.size) #[(.slice xcA0 xcn0 xcc0), (.slice xcA1 xcn1 xcc1)] 27 := (Box.b xc.drew b8)
      clear xc; have xc := xc_; clear xc_
      refine ⟨_, rfl, ⟨xc.two.1, xc.two.2.1, pt.two.1, pt.two.2.1⟩, fun hS => ?_⟩
      (try simp only [Act.put, List.setIfInBounds_toArray, List.set_cons_zero, List.set_cons_succ])
      refine on 4 ?_
      refine callH (by go_simp; (first | done | with_reducible rfl | exact ⟨rfl, rfl⟩)) ?_
      go_at_call 78
      refine (iRunGarbled_L rxc.rd cL0n cL1n tI0 tI1 rxy.rd yL0n).mono ?_
      rintro e w9 ⟨g0A0, g0n0, g0c0, rfl, rg0, b9⟩
      clear hS
      have z9 := Below.size b9
      (try simp only [World.size_alloc, World.size_setCell, size_drew] at z9)
      have B9 : Below w.heap.size w w9 := Below.t b9
      have rw0_ := (rw0.below b9)
      clear rw0; have rw0 := rw0_; clear rw0_
      have rxc_ := (rxc.below b9)
      clear rxc; have rxc := rxc_; clear rxc_
      have rxy_ := (rxy.below b9)
      clear rxy; have rxy := rxy_; clear rxy_
      have pc_ : Box w9 (w.heap.size) #[(.slice cA0 cn0 cc0), (.slice cA1 cn1 cc1)] 63 := (Box.b pc b9)
      clear pc; have pc := pc_; clear pc_
      have pt_ : Box w9 (w.heap.size + 1) #[.int .i64 tI0, .int .i64 tI1] 69 := (Box.b pt b9)
      clear pt; have pt := pt_; clear pt_
      have xc_ : Box w9 (w6.heap.size) #[(.slice xcA0 xcn0 xcc0), (.slice xcA1 xcn1 xcc1)] 27 := (Box.b xc b9)
      clear xc; have xc := xc_; clear xc_
      (try simp only [World.size_alloc, World.size_setCell, size_drew] at rg0)
      refine ⟨_, rfl, ⟨xc.two.1, xc.two.2.1, pt.two.1, pt.two.2.1⟩, fun hS => ?_⟩
      (try simp only [Act.put, List.setIfInBounds_toArray, List.set_cons_zero, List.set_cons_succ])
      (refine tk 5 hS ?_; (try simp only [Act.put, List.setIfInBounds_toArray, List.set_cons_zero, List.set_cons_succ]))
      (refine tk 6 hS ?_; (try simp only [Act.put, List.setIfInBounds_toArray, List.set_cons_zero, List.set_cons_succ]))
      (refine tk 7 hS ?_; (try simp only [Act.put, List.setIfInBounds_toArray, List.set_cons_zero, List.set_cons_succ]))
      (refine tk 8 hS ?_; (try simp only [Act.put, List.setIfInBounds_toArray, List.set_cons_zero, List.set_cons_succ]))
      (refine tk 9 hS ?_; (try simp only [Act.put, List.setIfInBounds_toArray, List.set_cons_zero, List.set_cons_succ]))
      clear hS
      refine wpAnyH_done (by kernel_rfl) ?_ _
      go_wp2_with fail
      refine (eqIntS_L rg0.rd rw0.rd rL0_0n).mono ?_
      rintro e w10 ⟨rfl, b10⟩
      have z10 := b10.size
      try simp only [World.size_alloc, World.size_setCell, size_drew] at z10
      have B10 : Below w.heap.size w w10 := Below.t b10
      have rw0_ := rw0.below b10
      clear rw0; have rw0 := rw0_; clear rw0_
      have rxc_ := rxc.below b10
      clear rxc; have rxc := rxc_; clear rxc_
      have rxy_ := rxy.below b10
      clear rxy; have rxy := rxy_; clear rxy_
      have rg0_ := rg0.below b10
      clear rg0; have rg0 := rg0_; clear rg0_
      have pc_ : Box w10 (w.heap.size) #[(.slice cA0 cn0 cc0), (.slice cA1 cn1 cc1)] 63 := pc.below b10 (by first | omega | (simp [size_drew]; done) | (simp [size_drew]; omega))
      clear pc; have pc := pc_; clear pc_
      have pt_ : Box w10 (w.heap.size + 1) #[.int .i64 tI0, .int .i64 tI1] 69 := pt.below b10 (by first | omega | (simp [size_drew]; done) | (simp [size_drew]; omega))
      clear pt; have pt := pt_; clear pt_
      have xc_ : Box w10 (w6.heap.size) #[(.slice xcA0 xcn0 xcc0), (.slice xcA1 xcn1 xcc1)] 27 := xc.below b10 (by first | omega | (simp [size_drew]; done) | (simp [size_drew]; omega))
      clear xc; have xc := xc_; clear xc_
      obtain ⟨cpc_0, cpc_1, fpc_0, fpc_1⟩ := pc.two
      have l_pc_0 : w.heap.size < w10.heap.size := by omega
      obtain ⟨cxc_0, cxc_1, fxc_0, fxc_1⟩ := xc.two
      have l_xc_0 : w6.heap.size < w10.heap.size := by omega
      go_wp2_with fail
      clear cpc_0 cpc_1 fpc_0 fpc_1 l_pc_0 cxc_0 cxc_1 fxc_0 fxc_1 l_xc_0
      refine wp_region_held_drew (S := fun W => W.cell? ⟨w.heap.size, 0, none⟩ = some ((.slice cA0 cn0 cc0)) ∧ W.cell? ⟨w.heap.size, 1, none⟩ = some ((.slice cA1 cn1 cc1)) ∧ W.cell? ⟨w6.heap.size, 0, none⟩ = some ((.slice xcA0 xcn0 xcc0)) ∧ W.cell? ⟨w6.heap.size, 1, none⟩ = some ((.slice xcA1 xcn1 xcc1))) (by kernel_rfl) ⟨pc.drew.two.1, pc.drew.two.2.1, xc.drew.two.1, xc.drew.two.2.1⟩ (fun hS => ?_)
      (refine tk 0 hS ?_; (try simp only [Act.put, List.setIfInBounds_toArray, List.set_cons_zero, List.set_cons_succ]))
      (refine tk 1 hS ?_; (try simp only [Act.put, List.setIfInBounds_toArray, List.set_cons_zero, List.set_cons_succ]))
      refine on 2 ?_
      refine callH (by go_simp; (first | done | with_reducible rfl | exact ⟨rfl, rfl⟩)) ?_
      go_at_call 49
      refine (toCircuit_L (RdL.cons (d := .gates cL0) cL0h.rd.b (RdL.cons (d := .ints cL1) cL1h.rd.b RdL.nil)) cL0n cL1n).mono ?_
      rintro e w11 ⟨zcA0, zcn0, zcc0, zcA1, zcn1, zcc1, rfl, rzc, b11⟩
      clear hS
      have z11 := Below.size b11
      (try simp only [World.size_alloc, World.size_setCell, size_drew] at z11)
      have B11 : Below w.heap.size w w11 := Below.t b11
      have rw0_ := (rw0.drew.below b11)
      clear rw0; have rw0 := rw0_; clear rw0_
      have rxc_ := (rxc.drew.below b11)
      clear rxc; have rxc := rxc_; clear rxc_
      have rxy_ := (rxy.drew.below b11)
      clear rxy; have rxy := rxy_; clear rxy_
      have rg0_ := (rg0.drew.below b11)
      clear rg0; have rg0 := rg0_; clear rg0_
      have pc_ : Box w11 (w.heap.size) #[(.slice cA0 cn0 cc0), (.slice cA1 cn1 cc1)] 63 := (Box.b pc.drew b11)
      clear pc; have pc := pc_; clear pc_
      have pt_ : Box w11 (w.heap.size + 1) #[.int .i64 tI0, .int .i64 tI1] 69 := (Box.b pt.drew b11)
      clear pt; have pt := pt_; clear pt_
      have xc_ : Box w11 (w6.heap.size) #[(.slice xcA0 xcn0 xcc0), (.slice xcA1 xcn1 xcc1)] 27 := (Box.b xc.drew b11)
      clear xc; have xc := xc_; clear xc_
      (try simp only [World.size_alloc, World.size_setCell, size_drew] at rzc)
      refine ⟨_, rfl, ⟨pc.two.1, pc.two.2.1, xc.two.1, xc.two.2.1⟩, fun hS => ?_⟩
      (try simp only [Act.put, List.setIfInBounds_toArray, List.set_cons_zero, List.set_cons_succ])
      refine on 3 ?_
      refine callH (by go_simp; (first | done | with_reducible rfl | exact ⟨rfl, rfl⟩)) ?_
      go_at_call 51
      refine (eqCircuit_L rxc.rd rzc.rd cL0n cL1n).mono ?_
      rintro e w12 ⟨rfl, b12⟩
      clear hS
      have z12 := Below.size b12
      (try simp only [World.size_alloc, World.size_setCell, size_drew] at z12)
      have B12 : Below w.heap.size w w12 := Below.t b12
      have rw0_ := (rw0.below b12)
      clear rw0; have rw0 := rw0_; clear rw0_
      have rxc_ := (rxc.below b12)
      clear rxc; have rxc := rxc_; clear rxc_
      have rxy_ := (rxy.below b12)
      clear rxy; have rxy := rxy_; clear rxy_
      have rg0_ := (rg0.below b12)
      clear rg0; have rg0 := rg0_; clear rg0_
      have rzc_ := (rzc.below b12)
      clear rzc; have rzc := rzc_; clear rzc_
      have pc_ : Box w12 (w.heap.size) #[(.slice cA0 cn0 cc0), (.slice cA1 cn1 cc1)] 63 := (Box.b pc b12)
      clear pc; have pc := pc_; clear pc_
      have pt_ : Box w12 (w.heap.size + 1) #[.int .i64 tI0, .int .i64 tI1] 69 := (Box.b pt b12)
      clear pt; have pt := pt_; clear pt_
      have xc_ : Box w12 (w6.heap.size) #[(.slice xcA0 xcn0 xcc0), (.slice xcA1 xcn1 xcc1)] 27 := (Box.b xc b12)
      clear xc; have xc := xc_; clear xc_
      refine ⟨_, rfl, ⟨pc.two.1, pc.two.2.1, xc.two.1, xc.two.2.1⟩, fun hS => ?_⟩
      (try simp only [Act.put, List.setIfInBounds_toArray, List.set_cons_zero, List.set_cons_succ])
      (refine tk 4 hS ?_; (try simp only [Act.put, List.setIfInBounds_toArray, List.set_cons_zero, List.set_cons_succ]))
      clear hS
      refine wpAnyH_done (by kernel_rfl) ?_ _
      go_wp2_with fail
      refine (toIntS_L (RdL.cons (d := .ints yL0) yL0h.rd.b RdL.nil) yL0n).mono ?_
      rintro e w13 ⟨zyA0, zyn0, zyc0, rfl, rzy, b13⟩
      have z13 := b13.size
      try simp only [World.size_alloc, World.size_setCell, size_drew] at z13
      have B13 : Below w.heap.size w w13 := Below.t b13
      have rw0_ := rw0.below b13
      clear rw0; have rw0 := rw0_; clear rw0_
      have rxc_ := rxc.below b13
      clear rxc; have rxc := rxc_; clear rxc_
      have rxy_ := rxy.below b13
      clear rxy; have rxy := rxy_; clear rxy_
      have rg0_ := rg0.below b13
      clear rg0; have rg0 := rg0_; clear rg0_
      have pc_ : Box w13 (w.heap.size) #[(.slice cA0 cn0 cc0), (.slice cA1 cn1 cc1)] 63 := pc.below b13 (by first | omega | (simp [size_drew]; done) | (simp [size_drew]; omega))
      clear pc; have pc := pc_; clear pc_
      have pt_ : Box w13 (w.heap.size + 1) #[.int .i64 tI0, .int .i64 tI1] 69 := pt.below b13 (by first | omega | (simp [size_drew]; done) | (simp [size_drew]; omega))
      clear pt; have pt := pt_; clear pt_
      have xc_ : Box w13 (w6.heap.size) #[(.slice xcA0 xcn0 xcc0), (.slice xcA1 xcn1 xcc1)] 27 := xc.below b13 (by first | omega | (simp [size_drew]; done) | (simp [size_drew]; omega))
      clear xc; have xc := xc_; clear xc_
      try simp only [World.size_alloc, World.size_setCell, size_drew] at rzy
      go_wp2_with fail
      refine (eqIntS_L rxy.rd rzy.rd yL0n).mono ?_
      rintro e w14 ⟨rfl, b14⟩
      have z14 := b14.size
      try simp only [World.size_alloc, World.size_setCell, size_drew] at z14
      have B14 : Below w.heap.size w w14 := Below.t b14
      have rw0_ := rw0.below b14
      clear rw0; have rw0 := rw0_; clear rw0_
      have rxc_ := rxc.below b14
      clear rxc; have rxc := rxc_; clear rxc_
      have rxy_ := rxy.below b14
      clear rxy; have rxy := rxy_; clear rxy_
      have rg0_ := rg0.below b14
      clear rg0; have rg0 := rg0_; clear rg0_
      have rzy_ := rzy.below b14
      clear rzy; have rzy := rzy_; clear rzy_
      have pc_ : Box w14 (w.heap.size) #[(.slice cA0 cn0 cc0), (.slice cA1 cn1 cc1)] 63 := pc.below b14 (by first | omega | (simp [size_drew]; done) | (simp [size_drew]; omega))
      clear pc; have pc := pc_; clear pc_
      have pt_ : Box w14 (w.heap.size + 1) #[.int .i64 tI0, .int .i64 tI1] 69 := pt.below b14 (by first | omega | (simp [size_drew]; done) | (simp [size_drew]; omega))
      clear pt; have pt := pt_; clear pt_
      have xc_ : Box w14 (w6.heap.size) #[(.slice xcA0 xcn0 xcc0), (.slice xcA1 xcn1 xcc1)] 27 := xc.below b14 (by first | omega | (simp [size_drew]; done) | (simp [size_drew]; omega))
      clear xc; have xc := xc_; clear xc_
      obtain ⟨cxc_0, cxc_1, fxc_0, fxc_1⟩ := xc.two
      have l_xc_0 : w6.heap.size < w14.heap.size := by omega
      go_wp2_with fail
      refine (markCircuit_L (1) _ rxc (by first | omega | (simp [size_drew]; done) | (simp [size_drew]; omega)) (by omega) cL0n cL1n).mono ?_
      rintro e w15 ⟨rfl, rxc, c15⟩
      clear cxc_0 cxc_1 fxc_0 fxc_1 l_xc_0
      have z15 := c15.size
      try simp only [World.size_alloc, World.size_setCell, size_drew] at z15
      have rw0_ := rw0.away c15 (by omega)
      clear rw0; have rw0 := rw0_; clear rw0_
      have rxy_ := rxy.away c15 (by omega)
      clear rxy; have rxy := rxy_; clear rxy_
      have rg0_ := rg0.away c15 (by omega)
      clear rg0; have rg0 := rg0_; clear rg0_
      have pc_ : Box w15 (w.heap.size) #[(.slice cA0 cn0 cc0), (.slice cA1 cn1 cc1)] 63 := pc.chg c15 (by omega)
      clear pc; have pc := pc_; clear pc_
      have pt_ : Box w15 (w.heap.size + 1) #[.int .i64 tI0, .int .i64 tI1] 69 := pt.chg c15 (by omega)
      clear pt; have pt := pt_; clear pt_
      have xc_ : Box w15 (w6.heap.size) #[(.slice xcA0 xcn0 xcc0), (.slice xcA1 xcn1 xcc1)] 27 := xc.chg c15 (by omega)
      clear xc; have xc := xc_; clear xc_
      have B15 : Below w.heap.size w w15 := B14.trans (c15.below (by omega) (by omega))
      go_wp2_with fail
      refine (markIntS_L (pre := []) (post := []) (1 + (3 * cL0.length + cL1.length)) _ rxy (by first | omega | (simp [size_drew]; done) | (simp [size_drew]; omega)) (by omega) yL0n).mono ?_
      rintro e w16 ⟨rfl, rxy, c16⟩
      have z16 := c16.size
      try simp only [World.size_alloc, World.size_setCell, size_drew] at z16
      have rw0_ := rw0.away c16 (by omega)
      clear rw0; have rw0 := rw0_; clear rw0_
      have rg0_ := rg0.away c16 (by omega)
      clear rg0; have rg0 := rg0_; clear rg0_
      have rxc_ := rxc.away c16 (by omega)
      clear rxc; have rxc := rxc_; clear rxc_
      have pc_ : Box w16 (w.heap.size) #[(.slice cA0 cn0 cc0), (.slice cA1 cn1 cc1)] 63 := pc.chg c16 (by omega)
      clear pc; have pc := pc_; clear pc_
      have pt_ : Box w16 (w.heap.size + 1) #[.int .i64 tI0, .int .i64 tI1] 69 := pt.chg c16 (by omega)
      clear pt; have pt := pt_; clear pt_
      have xc_ : Box w16 (w6.heap.size) #[(.slice xcA0 xcn0 xcc0), (.slice xcA1 xcn1 xcc1)] 27 := xc.chg c16 (by omega)
      clear xc; have xc := xc_; clear xc_
      have B16 : Below w.heap.size w w16 := B15.trans (c16.below (by omega) (by omega))
      go_wp2_with fail
      refine (eqIntS_L rg0.rd rw0.rd rL0_0n).mono ?_
      rintro e w17 ⟨rfl, b17⟩
      have z17 := b17.size
      try simp only [World.size_alloc, World.size_setCell, size_drew] at z17
      have B17 : Below w.heap.size w w17 := Below.t b17
      have rw0_ := rw0.below b17
      clear rw0; have rw0 := rw0_; clear rw0_
      have rg0_ := rg0.below b17
      clear rg0; have rg0 := rg0_; clear rg0_
      have rxc_ := rxc.below b17
      clear rxc; have rxc := rxc_; clear rxc_
      have rxy_ := rxy.below b17
      clear rxy; have rxy := rxy_; clear rxy_
      have pc_ : Box w17 (w.heap.size) #[(.slice cA0 cn0 cc0), (.slice cA1 cn1 cc1)] 63 := pc.below b17 (by first | omega | (simp [size_drew]; done) | (simp [size_drew]; omega))
      clear pc; have pc := pc_; clear pc_
      have pt_ : Box w17 (w.heap.size + 1) #[.int .i64 tI0, .int .i64 tI1] 69 := pt.below b17 (by first | omega | (simp [size_drew]; done) | (simp [size_drew]; omega))
      clear pt; have pt := pt_; clear pt_
      have xc_ : Box w17 (w6.heap.size) #[(.slice xcA0 xcn0 xcc0), (.slice xcA1 xcn1 xcc1)] 27 := xc.below b17 (by first | omega | (simp [size_drew]; done) | (simp [size_drew]; omega))
      clear xc; have xc := xc_; clear xc_
      go_wp2_with fail
      refine (markIntS_L (pre := []) (post := []) (1) _ rg0 (by first | omega | (simp [size_drew]; done) | (simp [size_drew]; omega)) (by omega) rL0_0n).mono ?_
      rintro e w18 ⟨rfl, rg0, c18⟩
      have z18 := c18.size
      try simp only [World.size_alloc, World.size_setCell, size_drew] at z18
      have rw0_ := rw0.away c18 (by omega)
      clear rw0; have rw0 := rw0_; clear rw0_
      have pc_ : Box w18 (w.heap.size) #[(.slice cA0 cn0 cc0), (.slice cA1 cn1 cc1)] 63 := pc.chg c18 (by omega)
      clear pc; have pc := pc_; clear pc_
      have pt_ : Box w18 (w.heap.size + 1) #[.int .i64 tI0, .int .i64 tI1] 69 := pt.chg c18 (by omega)
      clear pt; have pt := pt_; clear pt_
      have B18 : Below w.heap.size w w18 := B17.trans (c18.below (by omega) (by omega))
      go_wp2_with fail
      refine (heldIntS_L (rgL cL0 cL1 tI0 tI1 yL0).length (1) _ rg0.rd (by first | omega | (simp [size_drew]; done) | (simp [size_drew]; omega)) (by omega) rL0_0n).mono ?_
      rintro e w_ ⟨rfl, rfl⟩
      obtain ⟨cpc_0, cpc_1, fpc_0, fpc_1⟩ := pc.two
      have l_pc_0 : w.heap.size < w18.heap.size := by omega
      obtain ⟨cpt_0, cpt_1, fpt_0, fpt_1⟩ := pt.two
      have l_pt_0 : w.heap.size + 1 < w18.heap.size := by omega
      go_wp2_with fail
      clear cpc_0 cpc_1 fpc_0 fpc_1 l_pc_0 cpt_0 cpt_1 fpt_0 fpt_1 l_pt_0
      refine wp_region_held_drew (S := fun W => W.cell? ⟨w.heap.size, 0, none⟩ = some ((.slice cA0 cn0 cc0)) ∧ W.cell? ⟨w.heap.size, 1, none⟩ = some ((.slice cA1 cn1 cc1)) ∧ W.cell? ⟨w.heap.size + 1, 0, none⟩ = some (.int .i64 tI0) ∧ W.cell? ⟨w.heap.size + 1, 1, none⟩ = some (.int .i64 tI1)) (by kernel_rfl) ⟨pc.drew.two.1, pc.drew.two.2.1, pt.drew.two.1, pt.drew.two.2.1⟩ (fun hS => ?_)
      (refine tk 0 hS ?_; (try simp only [Act.put, List.setIfInBounds_toArray, List.set_cons_zero, List.set_cons_succ]))
      (refine tk 2 hS ?_; (try simp only [Act.put, List.setIfInBounds_toArray, List.set_cons_zero, List.set_cons_succ]))
      (refine tk 4 hS ?_; (try simp only [Act.put, List.setIfInBounds_toArray, List.set_cons_zero, List.set_cons_succ]))
      refine on 1 ?_
      refine callH (by go_simp; (first | done | with_reducible rfl | exact ⟨rfl, rfl⟩)) ?_
      go_at_call 49
      refine (toCircuit_L (RdL.cons (d := .gates cL0) cL0h.rd.b (RdL.cons (d := .ints cL1) cL1h.rd.b RdL.nil)) cL0n cL1n).mono ?_
      rintro e w19 ⟨tcA0, tcn0, tcc0, tcA1, tcn1, tcc1, rfl, rtc, b19⟩
      clear hS
      have z19 := Below.size b19
      (try simp only [World.size_alloc, World.size_setCell, size_drew] at z19)
      have B19 : Below w.heap.size w w19 := Below.t b19
      have rw0_ := (rw0.drew.below b19)
      clear rw0; have rw0 := rw0_; clear rw0_
      have rg0_ := (rg0.drew.below b19)
      clear rg0; have rg0 := rg0_; clear rg0_
      have pc_ : Box w19 (w.heap.size) #[(.slice cA0 cn0 cc0), (.slice cA1 cn1 cc1)] 63 := (Box.b pc.drew b19)
      clear pc; have pc := pc_; clear pc_
      have pt_ : Box w19 (w.heap.size + 1) #[.int .i64 tI0, .int .i64 tI1] 69 := (Box.b pt.drew b19)
      clear pt; have pt := pt_; clear pt_
      (try simp only [World.size_alloc, World.size_setCell, size_drew] at rtc)
      refine ⟨_, rfl, ⟨pc.two.1, pc.two.2.1, pt.two.1, pt.two.2.1⟩, fun hS => ?_⟩
      (try simp only [Act.put, List.setIfInBounds_toArray, List.set_cons_zero, List.set_cons_succ])
      refine on 3 ?_
      refine callH (by go_simp; (first | done | with_reducible rfl | exact ⟨rfl, rfl⟩)) ?_
      go_at_call 54
      refine (toTape_L tI0 tI1).mono ?_
      rintro e w20 ⟨rfl, b20⟩
      clear hS
      have z20 := Below.size b20
      (try simp only [World.size_alloc, World.size_setCell, size_drew] at z20)
      have B20 : Below w.heap.size w w20 := Below.t b20
      have rw0_ := (rw0.below b20)
      clear rw0; have rw0 := rw0_; clear rw0_
      have rg0_ := (rg0.below b20)
      clear rg0; have rg0 := rg0_; clear rg0_
      have rtc_ := (rtc.below b20)
      clear rtc; have rtc := rtc_; clear rtc_
      have pc_ : Box w20 (w.heap.size) #[(.slice cA0 cn0 cc0), (.slice cA1 cn1 cc1)] 63 := (Box.b pc b20)
      clear pc; have pc := pc_; clear pc_
      have pt_ : Box w20 (w.heap.size + 1) #[.int .i64 tI0, .int .i64 tI1] 69 := (Box.b pt b20)
      clear pt; have pt := pt_; clear pt_
      refine ⟨_, rfl, ⟨pc.two.1, pc.two.2.1, pt.two.1, pt.two.2.1⟩, fun hS => ?_⟩
      (try simp only [Act.put, List.setIfInBounds_toArray, List.set_cons_zero, List.set_cons_succ])
      refine on 5 ?_
      refine callH (by go_simp; (first | done | with_reducible rfl | exact ⟨rfl, rfl⟩)) ?_
      go_at_call 35
      refine (toIntS_L (RdL.cons (d := .ints yL0) yL0h.rd.b RdL.nil) yL0n).mono ?_
      rintro e w21 ⟨tyA0, tyn0, tyc0, rfl, rty, b21⟩
      clear hS
      have z21 := Below.size b21
      (try simp only [World.size_alloc, World.size_setCell, size_drew] at z21)
      have B21 : Below w.heap.size w w21 := Below.t b21
      have rw0_ := (rw0.below b21)
      clear rw0; have rw0 := rw0_; clear rw0_
      have rg0_ := (rg0.below b21)
      clear rg0; have rg0 := rg0_; clear rg0_
      have rtc_ := (rtc.below b21)
      clear rtc; have rtc := rtc_; clear rtc_
      have pc_ : Box w21 (w.heap.size) #[(.slice cA0 cn0 cc0), (.slice cA1 cn1 cc1)] 63 := (Box.b pc b21)
      clear pc; have pc := pc_; clear pc_
      have pt_ : Box w21 (w.heap.size + 1) #[.int .i64 tI0, .int .i64 tI1] 69 := (Box.b pt b21)
      clear pt; have pt := pt_; clear pt_
      (try simp only [World.size_alloc, World.size_setCell, size_drew] at rty)
      refine ⟨_, rfl, ⟨pc.two.1, pc.two.2.1, pt.two.1, pt.two.2.1⟩, fun hS => ?_⟩
      (try simp only [Act.put, List.setIfInBounds_toArray, List.set_cons_zero, List.set_cons_succ])
      refine on 6 ?_
      refine callH (by go_simp; (first | done | with_reducible rfl | exact ⟨rfl, rfl⟩)) ?_
      go_at_call 78
      refine (iRunGarbled_L rtc.rd cL0n cL1n tI0 tI1 rty.rd yL0n).mono ?_
      rintro e w22 ⟨h0A0, h0n0, h0c0, rfl, rh0, b22⟩
      clear hS
      have z22 := Below.size b22
      (try simp only [World.size_alloc, World.size_setCell, size_drew] at z22)
      have B22 : Below w.heap.size w w22 := Below.t b22
      have rw0_ := (rw0.below b22)
      clear rw0; have rw0 := rw0_; clear rw0_
      have rg0_ := (rg0.below b22)
      clear rg0; have rg0 := rg0_; clear rg0_
      have rtc_ := (rtc.below b22)
      clear rtc; have rtc := rtc_; clear rtc_
      have rty_ := (rty.below b22)
      clear rty; have rty := rty_; clear rty_
      have pc_ : Box w22 (w.heap.size) #[(.slice cA0 cn0 cc0), (.slice cA1 cn1 cc1)] 63 := (Box.b pc b22)
      clear pc; have pc := pc_; clear pc_
      have pt_ : Box w22 (w.heap.size + 1) #[.int .i64 tI0, .int .i64 tI1] 69 := (Box.b pt b22)
      clear pt; have pt := pt_; clear pt_
      (try simp only [World.size_alloc, World.size_setCell, size_drew] at rh0)
      refine ⟨_, rfl, ⟨pc.two.1, pc.two.2.1, pt.two.1, pt.two.2.1⟩, fun hS => ?_⟩
      (try simp only [Act.put, List.setIfInBounds_toArray, List.set_cons_zero, List.set_cons_succ])
      (refine tk 7 hS ?_; (try simp only [Act.put, List.setIfInBounds_toArray, List.set_cons_zero, List.set_cons_succ]))
      (refine tk 8 hS ?_; (try simp only [Act.put, List.setIfInBounds_toArray, List.set_cons_zero, List.set_cons_succ]))
      (refine tk 9 hS ?_; (try simp only [Act.put, List.setIfInBounds_toArray, List.set_cons_zero, List.set_cons_succ]))
      (refine tk 10 hS ?_; (try simp only [Act.put, List.setIfInBounds_toArray, List.set_cons_zero, List.set_cons_succ]))
      (refine tk 11 hS ?_; (try simp only [Act.put, List.setIfInBounds_toArray, List.set_cons_zero, List.set_cons_succ]))
      clear hS
      refine wpAnyH_done (by kernel_rfl) ?_ _
      go_wp2_with fail
      refine (eqIntS_L rh0.rd rw0.rd rL0_0n).mono ?_
      rintro e w23 ⟨rfl, b23⟩
      have z23 := b23.size
      try simp only [World.size_alloc, World.size_setCell, size_drew] at z23
      have B23 : Below w.heap.size w w23 := Below.t b23
      have rw0_ := rw0.below b23
      clear rw0; have rw0 := rw0_; clear rw0_
      have rg0_ := rg0.below b23
      clear rg0; have rg0 := rg0_; clear rg0_
      have rh0_ := rh0.below b23
      clear rh0; have rh0 := rh0_; clear rh0_
      have pc_ : Box w23 (w.heap.size) #[(.slice cA0 cn0 cc0), (.slice cA1 cn1 cc1)] 63 := pc.below b23 (by first | omega | (simp [size_drew]; done) | (simp [size_drew]; omega))
      clear pc; have pc := pc_; clear pc_
      have pt_ : Box w23 (w.heap.size + 1) #[.int .i64 tI0, .int .i64 tI1] 69 := pt.below b23 (by first | omega | (simp [size_drew]; done) | (simp [size_drew]; omega))
      clear pt; have pt := pt_; clear pt_
      go_wp2_with fail
      refine (heldIntS_L (rgL cL0 cL1 tI0 tI1 yL0).length (1) _ rg0.rd (by first | omega | (simp [size_drew]; done) | (simp [size_drew]; omega)) (by omega) rL0_0n).mono ?_
      rintro e w_ ⟨rfl, rfl⟩
      go_wp2_with fail
      go_ret
      exact ⟨rfl, B23⟩
    · skip
      go_enter Try.func21, Try.ntmps21
      go_wp2_with fail
      refine (szCircuit_no cL0h.b cL1h.b (1048576) _ (by first | rfl | simp) (by omega) (by omega)).mono ?_
      rintro e w1 ⟨rfl, b1⟩
      have z1 := b1.size
      try simp only [World.size_alloc, World.size_setCell, size_drew] at z1
      have B1 : Below w.heap.size w w1 := Below.t b1
      have pc_ : Box w1 (w.heap.size) #[(.slice cA0 cn0 cc0), (.slice cA1 cn1 cc1)] 63 := ((Box.new (g := w.heap.size) _ #[(.slice cA0 cn0 cc0), (.slice cA1 cn1 cc1)] 63 (by simp)).alloc _).below b1 (by first | omega | (simp [size_drew]; done) | (simp [size_drew]; omega))
      have pc := pc_; clear pc_
      have pt_ : Box w1 (w.heap.size + 1) #[.int .i64 tI0, .int .i64 tI1] 69 := (Box.new (g := w.heap.size + 1) _ #[.int .i64 tI0, .int .i64 tI1] 69 (by simp)).below b1 (by first | omega | (simp [size_drew]; done) | (simp [size_drew]; omega))
      have pt := pt_; clear pt_
      go_wp2
      go_ret
      exact ⟨rfl, B1⟩
end Go.Proofs.Ytodnahpegecpiaa

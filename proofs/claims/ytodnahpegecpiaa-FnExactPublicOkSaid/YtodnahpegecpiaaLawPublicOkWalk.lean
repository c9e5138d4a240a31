/- The walk of the law FnExactPublicOk. Printed by laws2.py. -/
import Derived.Test.YtodnahpegecpiaaLok
import Derived.Test.YtodnahpegecpiaaHk
import Derived.Test.YtodnahpegecpiaaAuto
namespace Go.Proofs.Ytodnahpegecpiaa
set_option linter.unusedSimpArgs false
set_option linter.unusedVariables false
open Go.RowKit
set_option maxRecDepth 100000 in
set_option maxHeartbeats 2000000 in
theorem walk_FnExactPublicOk (cL0V : Value) (cL0 : List (Int × Int × Int)) (cL1V : Value) (cL1 : List Int) (pL0V : Value) (pL0 : List Int) (pL1V : Value) (pL1 : List Int) (pL2V : Value) (pL2 : List Int) (w : World) (cL0h : RdG0 w cL0V cL0) (cL1h : Rd0 w cL1V cL1) (pL0h : Rd0 w pL0V pL0) (pL1h : Rd0 w pL1V pL1) (pL2h : Rd0 w pL2V pL2) :
    Calls Try.prog 12 #[.agg #[cL0V, cL1V], .agg #[pL0V, pL1V, pL2V]] w fun e w' => e = .returned (.bool true) ∧ Below w.heap.size w w' := by
  obtain ⟨cA0, cn0, cc0, rfl, cL0x, cL0I⟩ := cL0h
  have cL0h : RdG0 w (.slice cA0 cn0 cc0) cL0 := ⟨_, _, _, rfl, cL0x, cL0I⟩
  obtain ⟨cA1, cn1, cc1, rfl, cL1x, cL1I⟩ := cL1h
  have cL1h : Rd0 w (.slice cA1 cn1 cc1) cL1 := ⟨_, _, _, rfl, cL1x, cL1I⟩
  obtain ⟨pA0, pn0, pc0, rfl, pL0x, pL0I⟩ := pL0h
  have pL0h : Rd0 w (.slice pA0 pn0 pc0) pL0 := ⟨_, _, _, rfl, pL0x, pL0I⟩
  obtain ⟨pA1, pn1, pc1, rfl, pL1x, pL1I⟩ := pL1h
  have pL1h : Rd0 w (.slice pA1 pn1 pc1) pL1 := ⟨_, _, _, rfl, pL1x, pL1I⟩
  obtain ⟨pA2, pn2, pc2, rfl, pL2x, pL2I⟩ := pL2h
  have pL2h : Rd0 w (.slice pA2 pn2 pc2) pL2 := ⟨_, _, _, rfl, pL2x, pL2I⟩
  by_cases sz0 : (cL0.length + cL1.length) ≤ 1048576
  · skip
    by_cases sz1 : (cL0.length + cL1.length) + (pL0.length + pL1.length + pL2.length) ≤ 1048576
    · skip
      have cL0n : cL0.length ≤ 1048576 := by omega
      have cL1n : cL1.length ≤ 1048576 := by omega
      have pL0n : pL0.length ≤ 1048576 := by omega
      have pL1n : pL1.length ≤ 1048576 := by omega
      have pL2n : pL2.length ≤ 1048576 := by omega
      go_enter Try.func12, Try.ntmps12
      go_wp2_with fail
      refine (szCircuit_yes cL0h.b cL1h.b (1048576) _ (by first | rfl | simp) (by omega) (by omega)).mono ?_
      rintro e w1 ⟨rfl, b1⟩
      have z1 := b1.size
      try simp only [World.size_alloc, World.size_setCell, size_drew] at z1
      have B1 : Below w.heap.size w w1 := Below.t b1
      have pc_ : Box w1 (w.heap.size) #[(.slice cA0 cn0 cc0), (.slice cA1 cn1 cc1)] 63 := ((Box.new (g := w.heap.size) _ #[(.slice cA0 cn0 cc0), (.slice cA1 cn1 cc1)] 63 (by simp)).alloc _).below b1 (by first | omega | (simp [size_drew]; done) | (simp [size_drew]; omega))
      have pc := pc_; clear pc_
      have pp_ : Box w1 (w.heap.size + 1) #[(.slice pA0 pn0 pc0), (.slice pA1 pn1 pc1), (.slice pA2 pn2 pc2)] 81 := (Box.new (g := w.heap.size + 1) _ #[(.slice pA0 pn0 pc0), (.slice pA1 pn1 pc1), (.slice pA2 pn2 pc2)] 81 (by simp)).below b1 (by first | omega | (simp [size_drew]; done) | (simp [size_drew]; omega))
      have pp := pp_; clear pp_
      obtain ⟨cpp_0, cpp_1, cpp_2, fpp_0, fpp_1, fpp_2⟩ := pp.three
      have l_pp_0 : w.heap.size + 1 < w1.heap.size := by omega
      go_wp2_with fail
      refine (szPublic_yes pL0h.b pL1h.b pL2h.b (1048576 - (cL0.length + cL1.length)) _ (by first | rfl | simp) (by omega) (by omega)).mono ?_
      rintro e w2 ⟨rfl, b2⟩
      clear cpp_0 cpp_1 cpp_2 fpp_0 fpp_1 fpp_2 l_pp_0
      have z2 := b2.size
      try simp only [World.size_alloc, World.size_setCell, size_drew] at z2
      have B2 : Below w.heap.size w w2 := Below.t b2
      have pc_ : Box w2 (w.heap.size) #[(.slice cA0 cn0 cc0), (.slice cA1 cn1 cc1)] 63 := pc.below b2 (by first | omega | (simp [size_drew]; done) | (simp [size_drew]; omega))
      clear pc; have pc := pc_; clear pc_
      have pp_ : Box w2 (w.heap.size + 1) #[(.slice pA0 pn0 pc0), (.slice pA1 pn1 pc1), (.slice pA2 pn2 pc2)] 81 := pp.below b2 (by first | omega | (simp [size_drew]; done) | (simp [size_drew]; omega))
      clear pp; have pp := pp_; clear pp_
      obtain ⟨cpc_0, cpc_1, fpc_0, fpc_1⟩ := pc.two
      have l_pc_0 : w.heap.size < w2.heap.size := by omega
      obtain ⟨cpp_0, cpp_1, cpp_2, fpp_0, fpp_1, fpp_2⟩ := pp.three
      have l_pp_0 : w.heap.size + 1 < w2.heap.size := by omega
      go_wp2_with fail
      clear cpc_0 cpc_1 fpc_0 fpc_1 l_pc_0 cpp_0 cpp_1 cpp_2 fpp_0 fpp_1 fpp_2 l_pp_0
      refine wp_region_held_drew (S := fun W => W.cell? ⟨w.heap.size, 0, none⟩ = some ((.slice cA0 cn0 cc0)) ∧ W.cell? ⟨w.heap.size, 1, none⟩ = some ((.slice cA1 cn1 cc1)) ∧ W.cell? ⟨w.heap.size + 1, 0, none⟩ = some ((.slice pA0 pn0 pc0)) ∧ W.cell? ⟨w.heap.size + 1, 1, none⟩ = some ((.slice pA1 pn1 pc1)) ∧ W.cell? ⟨w.heap.size + 1, 2, none⟩ = some ((.slice pA2 pn2 pc2))) (by kernel_rfl) ⟨pc.drew.two.1, pc.drew.two.2.1, pp.drew.three.1, pp.drew.three.2.1, pp.drew.three.2.2.1⟩ (fun hS => ?_)
      (refine tk 0 hS ?_; (try simp only [Act.put, List.setIfInBounds_toArray, List.set_cons_zero, List.set_cons_succ]))
      (refine tk 2 hS ?_; (try simp only [Act.put, List.setIfInBounds_toArray, List.set_cons_zero, List.set_cons_succ]))
      refine on 1 ?_
      refine callH (by go_simp; (first | done | with_reducible rfl | exact ⟨rfl, rfl⟩)) ?_
      go_at_call 49
      refine (toCircuit_L (RdL.cons (d := .gates cL0) cL0h.rd.b (RdL.cons (d := .ints cL1) cL1h.rd.b RdL.nil)) cL0n cL1n).mono ?_
      rintro e w3 ⟨scA0, scn0, scc0, scA1, scn1, scc1, rfl, rsc, b3⟩
      clear hS
      have z3 := Below.size b3
      (try simp only [World.size_alloc, World.size_setCell, size_drew] at z3)
      have B3 : Below w.heap.size w w3 := Below.t b3
      have pc_ : Box w3 (w.heap.size) #[(.slice cA0 cn0 cc0), (.slice cA1 cn1 cc1)] 63 := (Box.b pc.drew b3)
      clear pc; have pc := pc_; clear pc_
      have pp_ : Box w3 (w.heap.size + 1) #[(.slice pA0 pn0 pc0), (.slice pA1 pn1 pc1), (.slice pA2 pn2 pc2)] 81 := (Box.b pp.drew b3)
      clear pp; have pp := pp_; clear pp_
      (try simp only [World.size_alloc, World.size_setCell, size_drew] at rsc)
      refine ⟨_, rfl, ⟨pc.two.1, pc.two.2.1, pp.three.1, pp.three.2.1, pp.three.2.2.1⟩, fun hS => ?_⟩
      (try simp only [Act.put, List.setIfInBounds_toArray, List.set_cons_zero, List.set_cons_succ])
      refine on 3 ?_
      refine callH (by go_simp; (first | done | with_reducible rfl | exact ⟨rfl, rfl⟩)) ?_
      go_at_call 64
      refine (toPublic_L (RdL.cons (d := .ints pL0) pL0h.rd.b (RdL.cons (d := .ints pL1) pL1h.rd.b (RdL.cons (d := .ints pL2) pL2h.rd.b RdL.nil))) pL0n pL1n pL2n).mono ?_
      rintro e w4 ⟨spA0, spn0, spc0, spA1, spn1, spc1, spA2, spn2, spc2, rfl, rsp, b4⟩
      clear hS
      have z4 := Below.size b4
      (try simp only [World.size_alloc, World.size_setCell, size_drew] at z4)
      have B4 : Below w.heap.size w w4 := Below.t b4
      have rsc_ := (rsc.below b4)
      clear rsc; have rsc := rsc_; clear rsc_
      have pc_ : Box w4 (w.heap.size) #[(.slice cA0 cn0 cc0), (.slice cA1 cn1 cc1)] 63 := (Box.b pc b4)
      clear pc; have pc := pc_; clear pc_
      have pp_ : Box w4 (w.heap.size + 1) #[(.slice pA0 pn0 pc0), (.slice pA1 pn1 pc1), (.slice pA2 pn2 pc2)] 81 := (Box.b pp b4)
      clear pp; have pp := pp_; clear pp_
      (try simp only [World.size_alloc, World.size_setCell, size_drew] at rsp)
      refine ⟨_, rfl, ⟨pc.two.1, pc.two.2.1, pp.three.1, pp.three.2.1, pp.three.2.2.1⟩, fun hS => ?_⟩
      (try simp only [Act.put, List.setIfInBounds_toArray, List.set_cons_zero, List.set_cons_succ])
      refine on 4 ?_
      refine callH (by go_simp; (first | done | with_reducible rfl | exact ⟨rfl, rfl⟩)) ?_
      go_at_call 63
      refine (sPublicOk_L rsc.rd cL0n cL1n rsp.rd pL0n pL1n pL2n).mono ?_
      rintro e w5 ⟨rfl, b5⟩
      clear hS
      have z5 := Below.size b5
      (try simp only [World.size_alloc, World.size_setCell, size_drew] at z5)
      have B5 : Below w.heap.size w w5 := Below.t b5
      have rsc_ := (rsc.below b5)
      clear rsc; have rsc := rsc_; clear rsc_
      have rsp_ := (rsp.below b5)
      clear rsp; have rsp := rsp_; clear rsp_
      have pc_ : Box w5 (w.heap.size) #[(.slice cA0 cn0 cc0), (.slice cA1 cn1 cc1)] 63 := (Box.b pc b5)
      clear pc; have pc := pc_; clear pc_
      have pp_ : Box w5 (w.heap.size + 1) #[(.slice pA0 pn0 pc0), (.slice pA1 pn1 pc1), (.slice pA2 pn2 pc2)] 81 := (Box.b pp b5)
      clear pp; have pp := pp_; clear pp_
      refine ⟨_, rfl, ⟨pc.two.1, pc.two.2.1, pp.three.1, pp.three.2.1, pp.three.2.2.1⟩, fun hS => ?_⟩
      (try simp only [Act.put, List.setIfInBounds_toArray, List.set_cons_zero, List.set_cons_succ])
      (refine tk 5 hS ?_; (try simp only [Act.put, List.setIfInBounds_toArray, List.set_cons_zero, List.set_cons_succ]))
      clear hS
      refine wpAnyH_done (by kernel_rfl) ?_ _
      obtain ⟨cpc_0, cpc_1, fpc_0, fpc_1⟩ := pc.two
      have l_pc_0 : w.heap.size < w5.heap.size := by omega
      go_wp2_with fail
      refine (toCircuit_L (RdL.cons (d := .gates cL0) cL0h.rd.b (RdL.cons (d := .ints cL1) cL1h.rd.b RdL.nil)) cL0n cL1n).mono ?_
      rintro e w6 ⟨xcA0, xcn0, xcc0, xcA1, xcn1, xcc1, rfl, rxc, b6⟩
      clear cpc_0 cpc_1 fpc_0 fpc_1 l_pc_0
      have z6 := b6.size
      try simp only [World.size_alloc, World.size_setCell, size_drew] at z6
      have B6 : Below w.heap.size w w6 := Below.t b6
      have pc_ : Box w6 (w.heap.size) #[(.slice cA0 cn0 cc0), (.slice cA1 cn1 cc1)] 63 := pc.below b6 (by first | omega | (simp [size_drew]; done) | (simp [size_drew]; omega))
      clear pc; have pc := pc_; clear pc_
      have pp_ : Box w6 (w.heap.size + 1) #[(.slice pA0 pn0 pc0), (.slice pA1 pn1 pc1), (.slice pA2 pn2 pc2)] 81 := pp.below b6 (by first | omega | (simp [size_drew]; done) | (simp [size_drew]; omega))
      clear pp; have pp := pp_; clear pp_
      try simp only [World.size_alloc, World.size_setCell, size_drew] at rxc
      obtain ⟨cpp_0, cpp_1, cpp_2, fpp_0, fpp_1, fpp_2⟩ := pp.three
      have l_pp_0 : w.heap.size + 1 < w6.heap.size := by omega
      have l_pp_1 : w.heap.size + 1 < w6.heap.size + 1 := by omega
      go_wp2_with fail
      refine (toPublic_L (RdL.cons (d := .ints pL0) pL0h.rd.b (RdL.cons (d := .ints pL1) pL1h.rd.b (RdL.cons (d := .ints pL2) pL2h.rd.b RdL.nil))) pL0n pL1n pL2n).mono ?_
      rintro e w7 ⟨xpA0, xpn0, xpc0, xpA1, xpn1, xpc1, xpA2, xpn2, xpc2, rfl, rxp, b7⟩
      clear cpp_0 cpp_1 cpp_2 fpp_0 fpp_1 fpp_2 l_pp_0 l_pp_1
      have z7 := b7.size
      try simp only [World.size_alloc, World.size_setCell, size_drew] at z7
      have B7 : Below w.heap.size w w7 := Below.t b7
      have rxc_ := (rxc.alloc _).below b7
      clear rxc; have rxc := rxc_; clear rxc_
      have pc_ : Box w7 (w.heap.size) #[(.slice cA0 cn0 cc0), (.slice cA1 cn1 cc1)] 63 := (pc.alloc _).below b7 (by first | omega | (simp [size_drew]; done) | (simp [size_drew]; omega))
      clear pc; have pc := pc_; clear pc_
      have pp_ : Box w7 (w.heap.size + 1) #[(.slice pA0 pn0 pc0), (.slice pA1 pn1 pc1), (.slice pA2 pn2 pc2)] 81 := (pp.alloc _).below b7 (by first | omega | (simp [size_drew]; done) | (simp [size_drew]; omega))
      clear pp; have pp := pp_; clear pp_
      have xc_ : Box w7 (w6.heap.size) #[(.slice xcA0 xcn0 xcc0), (.slice xcA1 xcn1 xcc1)] 27 := (Box.new (g := w6.heap.size) _ #[(.slice xcA0 xcn0 xcc0), (.slice xcA1 xcn1 xcc1)] 27 (by simp)).below b7 (by first | omega | (simp [size_drew]; done) | (simp [size_drew]; omega))
      have xc := xc_; clear xc_
      try simp only [World.size_alloc, World.size_setCell, size_drew] at rxp
      obtain ⟨cxc_0, cxc_1, fxc_0, fxc_1⟩ := xc.two
      have l_xc_0 : w6.heap.size < w7.heap.size := by omega
      have l_xc_1 : w6.heap.size < w7.heap.size + 1 := by omega
      go_wp2_with fail
      refine (iPublicOk_L (rxc.alloc _).rd cL0n cL1n (rxp.alloc _).rd pL0n pL1n pL2n).mono ?_
      rintro e w8 ⟨rfl, b8⟩
      clear cxc_0 cxc_1 fxc_0 fxc_1 l_xc_0 l_xc_1
      have z8 := b8.size
      try simp only [World.size_alloc, World.size_setCell, size_drew] at z8
      have B8 : Below w.heap.size w w8 := Below.t b8
      have rxc_ := (rxc.alloc _).below b8
      clear rxc; have rxc := rxc_; clear rxc_
      have rxp_ := (rxp.alloc _).below b8
      clear rxp; have rxp := rxp_; clear rxp_
      have pc_ : Box w8 (w.heap.size) #[(.slice cA0 cn0 cc0), (.slice cA1 cn1 cc1)] 63 := (pc.alloc _).below b8 (by first | omega | (simp [size_drew]; done) | (simp [size_drew]; omega))
      clear pc; have pc := pc_; clear pc_
      have pp_ : Box w8 (w.heap.size + 1) #[(.slice pA0 pn0 pc0), (.slice pA1 pn1 pc1), (.slice pA2 pn2 pc2)] 81 := (pp.alloc _).below b8 (by first | omega | (simp [size_drew]; done) | (simp [size_drew]; omega))
      clear pp; have pp := pp_; clear pp_
      have xc_ : Box w8 (w6.heap.size) #[(.slice xcA0 xcn0 xcc0), (.slice xcA1 xcn1 xcc1)] 27 := (xc.alloc _).below b8 (by first | omega | (simp [size_drew]; done) | (simp [size_drew]; omega))
      clear xc; have xc := xc_; clear xc_
      have xp_ : Box w8 (w7.heap.size) #[(.slice xpA0 xpn0 xpc0), (.slice xpA1 xpn1 xpc1), (.slice xpA2 xpn2 xpc2)] 37 := (Box.new (g := w7.heap.size) _ #[(.slice xpA0 xpn0 xpc0), (.slice xpA1 xpn1 xpc1), (.slice xpA2 xpn2 xpc2)] 37 (by simp)).below b8 (by first | omega | (simp [size_drew]; done) | (simp [size_drew]; omega))
      have xp := xp_; clear xp_
      obtain ⟨cpc_0, cpc_1, fpc_0, fpc_1⟩ := pc.two
      have l_pc_0 : w.heap.size < w8.heap.size := by omega
      obtain ⟨cxc_0, cxc_1, fxc_0, fxc_1⟩ := xc.two
      have l_xc_0 : w6.heap.size < w8.heap.size := by omega
      go_wp2_with fail
      clear cpc_0 cpc_1 fpc_0 fpc_1 l_pc_0 cxc_0 cxc_1 fxc_0 fxc_1 l_xc_0
      refine wp_region_held_drew (S := fun W => W.cell? ⟨w.heap.size, 0, none⟩ = some ((.slice cA0 cn0 cc0)) ∧ W.cell? ⟨w.heap.size, 1, none⟩ = some ((.slice cA1 cn1 cc1)) ∧ W.cell? ⟨w6.heap.size, 0, none⟩ = some ((.slice xcA0 xcn0 xcc0)) ∧ W.cell? ⟨w6.heap.size, 1, none⟩ = some ((.slice xcA1 xcn1 xcc1))) (by kernel_rfl) ⟨pc.drew.two.1, pc.drew.two.2.1, xc.drew.two.1, xc.drew.two.2.1⟩ (fun hS => ?_)
      (refine tk 0 hS ?_; (try simp only [Act.put, List.setIfInBounds_toArray, List.set_cons_zero, List.set_cons_succ]))
      (refine tk 1 hS ?_; (try simp only [Act.put, List.setIfInBounds_toArray, List.set_cons_zero, List.set_cons_succ]))
      refine on 2 ?_
      refine callH (by go_simp; (first | done | with_reducible rfl | exact ⟨rfl, rfl⟩)) ?_
      go_at_call 49
      refine (toCircuit_L (RdL.cons (d := .gates cL0) cL0h.rd.b (RdL.cons (d := .ints cL1) cL1h.rd.b RdL.nil)) cL0n cL1n).mono ?_
      rintro e w9 ⟨zcA0, zcn0, zcc0, zcA1, zcn1, zcc1, rfl, rzc, b9⟩
      clear hS
      have z9 := Below.size b9
      (try simp only [World.size_alloc, World.size_setCell, size_drew] at z9)
      have B9 : Below w.heap.size w w9 := Below.t b9
      have rxc_ := (rxc.drew.below b9)
      clear rxc; have rxc := rxc_; clear rxc_
      have rxp_ := (rxp.drew.below b9)
      clear rxp; have rxp := rxp_; clear rxp_
      have pc_ : Box w9 (w.heap.size) #[(.slice cA0 cn0 cc0), (.slice cA1 cn1 cc1)] 63 := (Box.b pc.drew b9)
      clear pc; have pc := pc_; clear pc_
      have pp_ : Box w9 (w.heap.size + 1) #[(.slice pA0 pn0 pc0), (.slice pA1 pn1 pc1), (.slice pA2 pn2 pc2)] 81 := (Box.b pp.drew b9)
      clear pp; have pp := pp_; clear pp_
      have xc_ : Box w9 (w6.heap.size) #[(.slice xcA0 xcn0 xcc0), (.slice xcA1 xcn1 xcc1)] 27 := (Box.b xc.drew b9)
      clear xc; have xc := xc_; clear xc_
      have xp_ : Box w9 (w7.heap.size) #[(.slice xpA0 xpn0 xpc0), (.slice xpA1 xpn1 xpc1), (.slice xpA2 xpn2 xpc2)] 37 := (Box.b xp.drew b9)
      clear xp; have xp := xp_; clear xp_
      (try simp only [World.size_alloc, World.size_setCell, size_drew] at rzc)
      refine ⟨_, rfl, ⟨pc.two.1, pc.two.2.1, xc.two.1, xc.two.2.1⟩, fun hS => ?_⟩
      (try simp only [Act.put, List.setIfInBounds_toArray, List.set_cons_zero, List.set_cons_succ])
      refine on 3 ?_
      refine callH (by go_simp; (first | done | with_reducible rfl | exact ⟨rfl, rfl⟩)) ?_
      go_at_call 51
      refine (eqCircuit_L rxc.rd rzc.rd cL0n cL1n).mono ?_
      rintro e w10 ⟨rfl, b10⟩
      clear hS
      have z10 := Below.size b10
      (try simp only [World.size_alloc, World.size_setCell, size_drew] at z10)
      have B10 : Below w.heap.size w w10 := Below.t b10
      have rxc_ := (rxc.below b10)
      clear rxc; have rxc := rxc_; clear rxc_
      have rxp_ := (rxp.below b10)
      clear rxp; have rxp := rxp_; clear rxp_
      have rzc_ := (rzc.below b10)
      clear rzc; have rzc := rzc_; clear rzc_
      have pc_ : Box w10 (w.heap.size) #[(.slice cA0 cn0 cc0), (.slice cA1 cn1 cc1)] 63 := (Box.b pc b10)
      clear pc; have pc := pc_; clear pc_
      have pp_ : Box w10 (w.heap.size + 1) #[(.slice pA0 pn0 pc0), (.slice pA1 pn1 pc1), (.slice pA2 pn2 pc2)] 81 := (Box.b pp b10)
      clear pp; have pp := pp_; clear pp_
      have xc_ : Box w10 (w6.heap.size) #[(.slice xcA0 xcn0 xcc0), (.slice xcA1 xcn1 xcc1)] 27 := (Box.b xc b10)
      clear xc; have xc := xc_; clear xc_
      have xp_ : Box w10 (w7.heap.size) #[(.slice xpA0 xpn0 xpc0), (.slice xpA1 xpn1 xpc1), (.slice xpA2 xpn2 xpc2)] 37 := (Box.b xp b10)
      clear xp; have xp := xp_; clear xp_
      refine ⟨_, rfl, ⟨pc.two.1, pc.two.2.1, xc.two.1, xc.two.2.1⟩, fun hS => ?_⟩
      (try simp only [Act.put, List.setIfInBounds_toArray, List.set_cons_zero, List.set_cons_succ])
      (refine tk 4 hS ?_; (try simp only [Act.put, List.setIfInBounds_toArray, List.set_cons_zero, List.set_cons_succ]))
      clear hS
      refine wpAnyH_done (by kernel_rfl) ?_ _
      obtain ⟨cpp_0, cpp_1, cpp_2, fpp_0, fpp_1, fpp_2⟩ := pp.three
      have l_pp_0 : w.heap.size + 1 < w10.heap.size := by omega
      obtain ⟨cxp_0, cxp_1, cxp_2, fxp_0, fxp_1, fxp_2⟩ := xp.three
      have l_xp_0 : w7.heap.size < w10.heap.size := by omega
      go_wp2_with fail
      clear cpp_0 cpp_1 cpp_2 fpp_0 fpp_1 fpp_2 l_pp_0 cxp_0 cxp_1 cxp_2 fxp_0 fxp_1 fxp_2 l_xp_0
      refine wp_region_held_drew (S := fun W => W.cell? ⟨w.heap.size + 1, 0, none⟩ = some ((.slice pA0 pn0 pc0)) ∧ W.cell? ⟨w.heap.size + 1, 1, none⟩ = some ((.slice pA1 pn1 pc1)) ∧ W.cell? ⟨w.heap.size + 1, 2, none⟩ = some ((.slice pA2 pn2 pc2)) ∧ W.cell? ⟨w7.heap.size, 0, none⟩ = some ((.slice xpA0 xpn0 xpc0)) ∧ W.cell? ⟨w7.heap.size, 1, none⟩ = some ((.slice xpA1 xpn1 xpc1)) ∧ W.cell? ⟨w7.heap.size, 2, none⟩ = some ((.slice xpA2 xpn2 xpc2))) (by kernel_rfl) ⟨pp.drew.three.1, pp.drew.three.2.1, pp.drew.three.2.2.1, xp.drew.three.1, xp.drew.three.2.1, xp.drew.three.2.2.1⟩ (fun hS => ?_)
      (refine tk 0 hS ?_; (try simp only [Act.put, List.setIfInBounds_toArray, List.set_cons_zero, List.set_cons_succ]))
      (refine tk 1 hS ?_; (try simp only [Act.put, List.setIfInBounds_toArray, List.set_cons_zero, List.set_cons_succ]))
      refine on 2 ?_
      refine callH (by go_simp; (first | done | with_reducible rfl | exact ⟨rfl, rfl⟩)) ?_
      go_at_call 64
      refine (toPublic_L (RdL.cons (d := .ints pL0) pL0h.rd.b (RdL.cons (d := .ints pL1) pL1h.rd.b (RdL.cons (d := .ints pL2) pL2h.rd.b RdL.nil))) pL0n pL1n pL2n).mono ?_
      rintro e w11 ⟨zpA0, zpn0, zpc0, zpA1, zpn1, zpc1, zpA2, zpn2, zpc2, rfl, rzp, b11⟩
      clear hS
      have z11 := Below.size b11
      (try simp only [World.size_alloc, World.size_setCell, size_drew] at z11)
      have B11 : Below w.heap.size w w11 := Below.t b11
      have rxc_ := (rxc.drew.below b11)
      clear rxc; have rxc := rxc_; clear rxc_
      have rxp_ := (rxp.drew.below b11)
      clear rxp; have rxp := rxp_; clear rxp_
      have pc_ : Box w11 (w.heap.size) #[(.slice cA0 cn0 cc0), (.slice cA1 cn1 cc1)] 63 := (Box.b pc.drew b11)
      clear pc; have pc := pc_; clear pc_
      have pp_ : Box w11 (w.heap.size + 1) #[(.slice pA0 pn0 pc0), (.slice pA1 pn1 pc1), (.slice pA2 pn2 pc2)] 81 := (Box.b pp.drew b11)
      clear pp; have pp := pp_; clear pp_
      have xc_ : Box w11 (w6.heap.size) #[(.slice xcA0 xcn0 xcc0), (.slice xcA1 xcn1 xcc1)] 27 := (Box.b xc.drew b11)
      clear xc; have xc := xc_; clear xc_
      have xp_ : Box w11 (w7.heap.size) #[(.slice xpA0 xpn0 xpc0), (.slice xpA1 xpn1 xpc1), (.slice xpA2 xpn2 xpc2)] 37 := (Box.b xp.drew b11)
      clear xp; have xp := xp_; clear xp_
      (try simp only [World.size_alloc, World.size_setCell, size_drew] at rzp)
      refine ⟨_, rfl, ⟨pp.three.1, pp.three.2.1, pp.three.2.2.1, xp.three.1, xp.three.2.1, xp.three.2.2.1⟩, fun hS => ?_⟩
      (try simp only [Act.put, List.setIfInBounds_toArray, List.set_cons_zero, List.set_cons_succ])
      refine on 3 ?_
      refine callH (by go_simp; (first | done | with_reducible rfl | exact ⟨rfl, rfl⟩)) ?_
      go_at_call 65
      refine (eqPublic_L rxp.rd rzp.rd pL0n pL1n pL2n).mono ?_
      rintro e w12 ⟨rfl, b12⟩
      clear hS
      have z12 := Below.size b12
      (try simp only [World.size_alloc, World.size_setCell, size_drew] at z12)
      have B12 : Below w.heap.size w w12 := Below.t b12
      have rxc_ := (rxc.below b12)
      clear rxc; have rxc := rxc_; clear rxc_
      have rxp_ := (rxp.below b12)
      clear rxp; have rxp := rxp_; clear rxp_
      have rzp_ := (rzp.below b12)
      clear rzp; have rzp := rzp_; clear rzp_
      have pc_ : Box w12 (w.heap.size) #[(.slice cA0 cn0 cc0), (.slice cA1 cn1 cc1)] 63 := (Box.b pc b12)
      clear pc; have pc := pc_; clear pc_
      have pp_ : Box w12 (w.heap.size + 1) #[(.slice pA0 pn0 pc0), (.slice pA1 pn1 pc1), (.slice pA2 pn2 pc2)] 81 := (Box.b pp b12)
      clear pp; have pp := pp_; clear pp_
      have xc_ : Box w12 (w6.heap.size) #[(.slice xcA0 xcn0 xcc0), (.slice xcA1 xcn1 xcc1)] 27 := (Box.b xc b12)
      clear xc; have xc := xc_; clear xc_
      have xp_ : Box w12 (w7.heap.size) #[(.slice xpA0 xpn0 xpc0), (.slice xpA1 xpn1 xpc1), (.slice xpA2 xpn2 xpc2)] 37 := (Box.b xp b12)
      clear xp; have xp := xp_; clear xp_
      refine ⟨_, rfl, ⟨pp.three.1, pp.three.2.1, pp.three.2.2.1, xp.three.1, xp.three.2.1, xp.three.2.2.1⟩, fun hS => ?_⟩
      (try simp only [Act.put, List.setIfInBounds_toArray, List.set_cons_zero, List.set_cons_succ])
      (refine tk 4 hS ?_; (try simp only [Act.put, List.setIfInBounds_toArray, List.set_cons_zero, List.set_cons_succ]))
      clear hS
      refine wpAnyH_done (by kernel_rfl) ?_ _
      go_wp2_with fail
      go_ret
      exact ⟨rfl, B12⟩
    · skip
      go_enter Try.func12, Try.ntmps12
      go_wp2_with fail
      refine (szCircuit_yes cL0h.b cL1h.b (1048576) _ (by first | rfl | simp) (by omega) (by omega)).mono ?_
      rintro e w1 ⟨rfl, b1⟩
      have z1 := b1.size
      try simp only [World.size_alloc, World.size_setCell, size_drew] at z1
      have B1 : Below w.heap.size w w1 := Below.t b1
      have pc_ : Box w1 (w.heap.size) #[(.slice cA0 cn0 cc0), (.slice cA1 cn1 cc1)] 63 := ((Box.new (g := w.heap.size) _ #[(.slice cA0 cn0 cc0), (.slice cA1 cn1 cc1)] 63 (by simp)).alloc _).below b1 (by first | omega | (simp [size_drew]; done) | (simp [size_drew]; omega))
      have pc := pc_; clear pc_
      have pp_ : Box w1 (w.heap.size + 1) #[(.slice pA0 pn0 pc0), (.slice pA1 pn1 pc1), (.slice pA2 pn2 pc2)] 81 := (Box.new (g := w.heap.size + 1) _ #[(.slice pA0 pn0 pc0), (.slice pA1 pn1 pc1), (.slice pA2 pn2 pc2)] 81 (by simp)).below b1 (by first | omega | (simp [size_drew]; done) | (simp [size_drew]; omega))
      have pp := pp_; clear pp_
      obtain ⟨cpp_0, cpp_1, cpp_2, fpp_0, fpp_1, fpp_2⟩ := pp.three
      have l_pp_0 : w.heap.size + 1 < w1.heap.size := by omega
      go_wp2_with fail
      refine (szPublic_no pL0h.b pL1h.b pL2h.b (1048576 - (cL0.length + cL1.length)) _ (by first | rfl | simp) (by omega) (by omega)).mono ?_
      rintro e w2 ⟨rfl, b2⟩
      clear cpp_0 cpp_1 cpp_2 fpp_0 fpp_1 fpp_2 l_pp_0
      have z2 := b2.size
      try simp only [World.size_alloc, World.size_setCell, size_drew] at z2
      have B2 : Below w.heap.size w w2 := Below.t b2
      have pc_ : Box w2 (w.heap.size) #[(.slice cA0 cn0 cc0), (.slice cA1 cn1 cc1)] 63 := pc.below b2 (by first | omega | (simp [size_drew]; done) | (simp [size_drew]; omega))
      clear pc; have pc := pc_; clear pc_
      have pp_ : Box w2 (w.heap.size + 1) #[(.slice pA0 pn0 pc0), (.slice pA1 pn1 pc1), (.slice pA2 pn2 pc2)] 81 := pp.below b2 (by first | omega | (simp [size_drew]; done) | (simp [size_drew]; omega))
      clear pp; have pp := pp_; clear pp_
      go_wp2
      go_ret
      exact ⟨rfl, B2⟩
  · skip
    go_enter Try.func12, Try.ntmps12
    go_wp2_with fail
    refine (szCircuit_no cL0h.b cL1h.b (1048576) _ (by first | rfl | simp) (by omega) (by omega)).mono ?_
    rintro e w1 ⟨rfl, b1⟩
    have z1 := b1.size
    try simp only [World.size_alloc, World.size_setCell, size_drew] at z1
    have B1 : Below w.heap.size w w1 := Below.t b1
    have pc_ : Box w1 (w.heap.size) #[(.slice cA0 cn0 cc0), (.slice cA1 cn1 cc1)] 63 := ((Box.new (g := w.heap.size) _ #[(.slice cA0 cn0 cc0), (.slice cA1 cn1 cc1)] 63 (by simp)).alloc _).below b1 (by first | omega | (simp [size_drew]; done) | (simp [size_drew]; omega))
    have pc := pc_; clear pc_
    have pp_ : Box w1 (w.heap.size + 1) #[(.slice pA0 pn0 pc0), (.slice pA1 pn1 pc1), (.slice pA2 pn2 pc2)] 81 := (Box.new (g := w.heap.size + 1) _ #[(.slice pA0 pn0 pc0), (.slice pA1 pn1 pc1), (.slice pA2 pn2 pc2)] 81 (by simp)).below b1 (by first | omega | (simp [size_drew]; done) | (simp [size_drew]; omega))
    have pp := pp_; clear pp_
    go_wp2
    go_ret
    exact ⟨rfl, B1⟩
end Go.Proofs.Ytodnahpegecpiaa

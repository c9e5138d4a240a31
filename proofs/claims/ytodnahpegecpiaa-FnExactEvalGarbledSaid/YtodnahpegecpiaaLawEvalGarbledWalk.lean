/- The walk of the law FnExactEvalGarbled. Printed by laws2.py. -/
import Derived.Test.YtodnahpegecpiaaEvg
import Derived.Test.YtodnahpegecpiaaHk
import Derived.Test.YtodnahpegecpiaaAuto
namespace Go.Proofs.Ytodnahpegecpiaa
set_option linter.unusedSimpArgs false
set_option linter.unusedVariables false
open Go.RowKit
set_option maxRecDepth 100000 in
set_option maxHeartbeats 2000000 in
theorem walk_FnExactEvalGarbled (cL0V : Value) (cL0 : List (Int × Int × Int)) (cL1V : Value) (cL1 : List Int) (pL0V : Value) (pL0 : List Int) (pL1V : Value) (pL1 : List Int) (pL2V : Value) (pL2 : List Int) (yL0V : Value) (yL0 : List Int) (w : World) (cL0h : RdG0 w cL0V cL0) (cL1h : Rd0 w cL1V cL1) (pL0h : Rd0 w pL0V pL0) (pL1h : Rd0 w pL1V pL1) (pL2h : Rd0 w pL2V pL2) (yL0h : Rd0 w yL0V yL0) :
    Calls Try.prog 18 #[.agg #[cL0V, cL1V], .agg #[pL0V, pL1V, pL2V], yL0V] w fun e w' => e = .returned (.bool true) ∧ Below w.heap.size w w' := by
  obtain ⟨cA0, cn0, cc0, rfl, cL0x, cL0I⟩ := cL0h
  have cL0h : RdG0 w (.slice cA0 cn0 cc0) cL0 := ⟨_, _, _, rfl, cL0x, cL0I⟩
  obtain ⟨cA1, cn1, cc1, rfl, cL1x, cL1I⟩ := cL1h
  have cL1h : Rd0 w (.slice cA1 cn1 cc1) cL1 := ⟨_, _, _, rfl, cL1x, cL1I⟩
  obtain ⟨pA0, pn0, pc0, rfl, pL0x, pL0I⟩ := pL0h
  have pL0h : Rd0 w (.slice pA0 pn0 pc0) pL0 := ⟨_, _, _, rfl, pL0x, pL0I⟩
  obtain ⟨pA1, pn1, pc1, rfl, pL1x, pL1I⟩ := pL1h
  have pL1h : Rd0 w (.slice pA1 pn1 pc1) pL1 := ⟨_, _, _, rfl, pL1x, pL1I⟩
  obtain ⟨pA2, pn2, pc2, rfl, pL2x, pL2I⟩ := pL2h
  have pL2h : Rd0 w (.slice pA2 pn2 pc2) pL2 := ⟨_, _, _, rfl, pL2x, pL2I⟩
  obtain ⟨yA0, yn0, yc0, rfl, yL0x, yL0I⟩ := yL0h
  have yL0h : Rd0 w (.slice yA0 yn0 yc0) yL0 := ⟨_, _, _, rfl, yL0x, yL0I⟩
  by_cases yL0b : (1048576 : Int) < yn0
  · go_enter Try.func18, Try.ntmps18
    go_wp2
    go_ret
    refine ⟨rfl, ?_⟩
    repeat (first | exact Below.refl _ _ | refine Below.alloc ?_ (by first | omega | (simp; done) | (simp; omega)) _ | refine Below.setCell ?_ (by first | omega | (simp; done) | (simp; omega)) _ | refine Below.drew ?_ | refine below_drewN ?_ _ | refine Below.trans ?_ (hb30.mono (by first | omega | (simp; done) | (simp; omega))) | refine Below.trans ?_ (hb29.mono (by first | omega | (simp; done) | (simp; omega))) | refine Below.trans ?_ (hb28.mono (by first | omega | (simp; done) | (simp; omega))) | refine Below.trans ?_ (hb27.mono (by first | omega | (simp; done) | (simp; omega))) | refine Below.trans ?_ (hb26.mono (by first | omega | (simp; done) | (simp; omega))) | refine Below.trans ?_ (hb25.mono (by first | omega | (simp; done) | (simp; omega))) | refine Below.trans ?_ (hb24.mono (by first | omega | (simp; done) | (simp; omega))) | refine Below.trans ?_ (hb23.mono (by first | omega | (simp; done) | (simp; omega))) | refine Below.trans ?_ (hb22.mono (by first | omega | (simp; done) | (simp; omega))) | refine Below.trans ?_ (hb21.mono (by first | omega | (simp; done) | (simp; omega))) | refine Below.trans ?_ (hb20.mono (by first | omega | (simp; done) | (simp; omega))) | refine Below.trans ?_ (hb19.mono (by first | omega | (simp; done) | (simp; omega))) | refine Below.trans ?_ (hb18.mono (by first | omega | (simp; done) | (simp; omega))) | refine Below.trans ?_ (hb17.mono (by first | omega | (simp; done) | (simp; omega))) | refine Below.trans ?_ (hb16.mono (by first | omega | (simp; done) | (simp; omega))) | refine Below.trans ?_ (hb15.mono (by first | omega | (simp; done) | (simp; omega))) | refine Below.trans ?_ (hb14.mono (by first | omega | (simp; done) | (simp; omega))) | refine Below.trans ?_ (hb13.mono (by first | omega | (simp; done) | (simp; omega))) | refine Below.trans ?_ (hb12.mono (by first | omega | (simp; done) | (simp; omega))) | refine Below.trans ?_ (hb11.mono (by first | omega | (simp; done) | (simp; omega))) | refine Below.trans ?_ (hb10.mono (by first | omega | (simp; done) | (simp; omega))) | refine Below.trans ?_ (hb9.mono (by first | omega | (simp; done) | (simp; omega))) | refine Below.trans ?_ (hb8.mono (by first | omega | (simp; done) | (simp; omega))) | refine Below.trans ?_ (hb7.mono (by first | omega | (simp; done) | (simp; omega))) | refine Below.trans ?_ (hb6.mono (by first | omega | (simp; done) | (simp; omega))) | refine Below.trans ?_ (hb5.mono (by first | omega | (simp; done) | (simp; omega))) | refine Below.trans ?_ (hb4.mono (by first | omega | (simp; done) | (simp; omega))) | refine Below.trans ?_ (hb3.mono (by first | omega | (simp; done) | (simp; omega))) | refine Below.trans ?_ (hb2.mono (by first | omega | (simp; done) | (simp; omega))) | refine Below.trans ?_ (hb1.mono (by first | omega | (simp; done) | (simp; omega))))
  · skip
    have yL0n : yL0.length ≤ 1048576 := by rw [yL0I.len]; omega
    by_cases sz0 : (cL0.length + cL1.length) ≤ 1048576
    · skip
      by_cases sz1 : (cL0.length + cL1.length) + (pL0.length + pL1.length + pL2.length) ≤ 1048576
      · skip
        have cL0n : cL0.length ≤ 1048576 := by omega
        have cL1n : cL1.length ≤ 1048576 := by omega
        have pL0n : pL0.length ≤ 1048576 := by omega
        have pL1n : pL1.length ≤ 1048576 := by omega
        have pL2n : pL2.length ≤ 1048576 := by omega
        have rL0_0n : (evL cL0 cL1 pL0 pL1 pL2 yL0).length ≤ 1048576 := Nat.le_trans (evL_len _ _ _ _ _ _) cL0n
        go_enter Try.func18, Try.ntmps18
        go_wp2_with fail
        refine (szCircuit_yes cL0h.b cL1h.b (1048576) _ (by first | rfl | simp) (by omega) (by omega)).mono ?_
        rintro e w1 ⟨rfl, b1⟩
        have z1 := b1.size
        try simp only [World.size_alloc, World.size_setCell, size_drew] at z1
        have B1 : Below w.heap.size w w1 := Below.t b1
        have pc_ : Box w1 (w.heap.size) #[(.slice cA0 cn0 cc0), (.slice cA1 cn1 cc1)] 63 := ((Box.new (g := w.heap.size) _ #[(.slice cA0 cn0 cc0), (.slice cA1 cn1 cc1)] 63 (by simp)).alloc _).below b1 (by first | omega | (simp [size_drew]; done) | (simp [size_drew]; omega))
        have pc := pc_; clear pc_
        have pp_ : Box w1 (w.heap.size + 1) #[(.slice pA0 pn0 pc0), (.slice pA1 pn1 pc1), (.slice pA2 pn2 pc2)] 81 := (Box.new (g := w.heap.size + 1) _ #[(.slice pA0 pn0 pc0), (.slice pA1 pn1 pc1), (.slice pA2 pn2 pc2)] 81 (by simp)).below b1 (by first | omega | (simp [size_drew]; done) | (simp [size_drew]; omega))
        have pp := pp_; clear pp_
        obtain ⟨cpp_0, cpp_1, cpp_2, fpp_0, fpp_1, fpp_2⟩ := pp.three
        have l_pp_0 : w.heap.size + 1 < w1.heap.size := by omega
        go_wp2_with fail
        refine (szPublic_yes pL0h.b pL1h.b pL2h.b (1048576 - (cL0.length + cL1.length)) _ (by first | rfl | simp) (by omega) (by omega)).mono ?_
        rintro e w2 ⟨rfl, b2⟩
        clear cpp_0 cpp_1 cpp_2 fpp_0 fpp_1 fpp_2 l_pp_0
        have z2 := b2.size
        try simp only [World.size_alloc, World.size_setCell, size_drew] at z2
        have B2 : Below w.heap.size w w2 := Below.t b2
        have pc_ : Box w2 (w.heap.size) #[(.slice cA0 cn0 cc0), (.slice cA1 cn1 cc1)] 63 := pc.below b2 (by first | omega | (simp [size_drew]; done) | (simp [size_drew]; omega))
        clear pc; have pc := pc_; clear pc_
        have pp_ : Box w2 (w.heap.size + 1) #[(.slice pA0 pn0 pc0), (.slice pA1 pn1 pc1), (.slice pA2 pn2 pc2)] 81 := pp.below b2 (by first | omega | (simp [size_drew]; done) | (simp [size_drew]; omega))
        clear pp; have pp := pp_; clear pp_
        obtain ⟨cpc_0, cpc_1, fpc_0, fpc_1⟩ := pc.two
        have l_pc_0 : w.heap.size < w2.heap.size := by omega
        obtain ⟨cpp_0, cpp_1, cpp_2, fpp_0, fpp_1, fpp_2⟩ := pp.three
        have l_pp_0 : w.heap.size + 1 < w2.heap.size := by omega
        go_wp2_with fail
        clear cpc_0 cpc_1 fpc_0 fpc_1 l_pc_0 cpp_0 cpp_1 cpp_2 fpp_0 fpp_1 fpp_2 l_pp_0
        refine wp_region_held_drew (S := fun W => W.cell? ⟨w.heap.size, 0, none⟩ = some ((.slice cA0 cn0 cc0)) ∧ W.cell? ⟨w.heap.size, 1, none⟩ = some ((.slice cA1 cn1 cc1)) ∧ W.cell? ⟨w.heap.size + 1, 0, none⟩ = some ((.slice pA0 pn0 pc0)) ∧ W.cell? ⟨w.heap.size + 1, 1, none⟩ = some ((.slice pA1 pn1 pc1)) ∧ W.cell? ⟨w.heap.size + 1, 2, none⟩ = some ((.slice pA2 pn2 pc2))) (by kernel_rfl) ⟨pc.drew.two.1, pc.drew.two.2.1, pp.drew.three.1, pp.drew.three.2.1, pp.drew.three.2.2.1⟩ (fun hS => ?_)
        (refine tk 0 hS ?_; (try simp only [Act.put, List.setIfInBounds_toArray, List.set_cons_zero, List.set_cons_succ]))
        (refine tk 2 hS ?_; (try simp only [Act.put, List.setIfInBounds_toArray, List.set_cons_zero, List.set_cons_succ]))
        (refine tk 4 hS ?_; (try simp only [Act.put, List.setIfInBounds_toArray, List.set_cons_zero, List.set_cons_succ]))
        refine on 1 ?_
        refine callH (by go_simp; (first | done | with_reducible rfl | exact ⟨rfl, rfl⟩)) ?_
        go_at_call 49
        refine (toCircuit_L (RdL.cons (d := .gates cL0) cL0h.rd.b (RdL.cons (d := .ints cL1) cL1h.rd.b RdL.nil)) cL0n cL1n).mono ?_
        rintro e w3 ⟨scA0, scn0, scc0, scA1, scn1, scc1, rfl, rsc, b3⟩
        clear hS
        have z3 := Below.size b3
        (try simp only [World.size_alloc, World.size_setCell, size_drew] at z3)
        have B3 : Below w.heap.size w w3 := Below.t b3
        have pc_ : Box w3 (w.heap.size) #[(.slice cA0 cn0 cc0), (.slice cA1 cn1 cc1)] 63 := (Box.b pc.drew b3)
        clear pc; have pc := pc_; clear pc_
        have pp_ : Box w3 (w.heap.size + 1) #[(.slice pA0 pn0 pc0), (.slice pA1 pn1 pc1), (.slice pA2 pn2 pc2)] 81 := (Box.b pp.drew b3)
        clear pp; have pp := pp_; clear pp_
        (try simp only [World.size_alloc, World.size_setCell, size_drew] at rsc)
        refine ⟨_, rfl, ⟨pc.two.1, pc.two.2.1, pp.three.1, pp.three.2.1, pp.three.2.2.1⟩, fun hS => ?_⟩
        (try simp only [Act.put, List.setIfInBounds_toArray, List.set_cons_zero, List.set_cons_succ])
        refine on 3 ?_
        refine callH (by go_simp; (first | done | with_reducible rfl | exact ⟨rfl, rfl⟩)) ?_
        go_at_call 64
        refine (toPublic_L (RdL.cons (d := .ints pL0) pL0h.rd.b (RdL.cons (d := .ints pL1) pL1h.rd.b (RdL.cons (d := .ints pL2) pL2h.rd.b RdL.nil))) pL0n pL1n pL2n).mono ?_
        rintro e w4 ⟨spA0, spn0, spc0, spA1, spn1, spc1, spA2, spn2, spc2, rfl, rsp, b4⟩
        clear hS
        have z4 := Below.size b4
        (try simp only [World.size_alloc, World.size_setCell, size_drew] at z4)
        have B4 : Below w.heap.size w w4 := Below.t b4
        have rsc_ := (rsc.below b4)
        clear rsc; have rsc := rsc_; clear rsc_
        have pc_ : Box w4 (w.heap.size) #[(.slice cA0 cn0 cc0), (.slice cA1 cn1 cc1)] 63 := (Box.b pc b4)
        clear pc; have pc := pc_; clear pc_
        have pp_ : Box w4 (w.heap.size + 1) #[(.slice pA0 pn0 pc0), (.slice pA1 pn1 pc1), (.slice pA2 pn2 pc2)] 81 := (Box.b pp b4)
        clear pp; have pp := pp_; clear pp_
        (try simp only [World.size_alloc, World.size_setCell, size_drew] at rsp)
        refine ⟨_, rfl, ⟨pc.two.1, pc.two.2.1, pp.three.1, pp.three.2.1, pp.three.2.2.1⟩, fun hS => ?_⟩
        (try simp only [Act.put, List.setIfInBounds_toArray, List.set_cons_zero, List.set_cons_succ])
        refine on 5 ?_
        refine callH (by go_simp; (first | done | with_reducible rfl | exact ⟨rfl, rfl⟩)) ?_
        go_at_call 35
        refine (toIntS_L (RdL.cons (d := .ints yL0) yL0h.rd.b RdL.nil) yL0n).mono ?_
        rintro e w5 ⟨syA0, syn0, syc0, rfl, rsy, b5⟩
        clear hS
        have z5 := Below.size b5
        (try simp only [World.size_alloc, World.size_setCell, size_drew] at z5)
        have B5 : Below w.heap.size w w5 := Below.t b5
        have rsc_ := (rsc.below b5)
        clear rsc; have rsc := rsc_; clear rsc_
        have rsp_ := (rsp.below b5)
        clear rsp; have rsp := rsp_; clear rsp_
        have pc_ : Box w5 (w.heap.size) #[(.slice cA0 cn0 cc0), (.slice cA1 cn1 cc1)] 63 := (Box.b pc b5)
        clear pc; have pc := pc_; clear pc_
        have pp_ : Box w5 (w.heap.size + 1) #[(.slice pA0 pn0 pc0), (.slice pA1 pn1 pc1), (.slice pA2 pn2 pc2)] 81 := (Box.b pp b5)
        clear pp; have pp := pp_; clear pp_
        (try simp only [World.size_alloc, World.size_setCell, size_drew] at rsy)
        refine ⟨_, rfl, ⟨pc.two.1, pc.two.2.1, pp.three.1, pp.three.2.1, pp.three.2.2.1⟩, fun hS => ?_⟩
        (try simp only [Act.put, List.setIfInBounds_toArray, List.set_cons_zero, List.set_cons_succ])
        refine on 6 ?_
        refine callH (by go_simp; (first | done | with_reducible rfl | exact ⟨rfl, rfl⟩)) ?_
        go_at_call 79
        refine (sEvalGarbled_L rsc.rd cL0n cL1n rsp.rd pL0n pL1n pL2n rsy.rd yL0n).mono ?_
        rintro e w6 ⟨w0A0, w0n0, w0c0, rfl, rw0, b6⟩
        clear hS
        have z6 := Below.size b6
        (try simp only [World.size_alloc, World.size_setCell, size_drew] at z6)
        have B6 : Below w.heap.size w w6 := Below.t b6
        have rsc_ := (rsc.below b6)
        clear rsc; have rsc := rsc_; clear rsc_
        have rsp_ := (rsp.below b6)
        clear rsp; have rsp := rsp_; clear rsp_
        have rsy_ := (rsy.below b6)
        clear rsy; have rsy := rsy_; clear rsy_
        have pc_ : Box w6 (w.heap.size) #[(.slice cA0 cn0 cc0), (.slice cA1 cn1 cc1)] 63 := (Box.b pc b6)
        clear pc; have pc := pc_; clear pc_
        have pp_ : Box w6 (w.heap.size + 1) #[(.slice pA0 pn0 pc0), (.slice pA1 pn1 pc1), (.slice pA2 pn2 pc2)] 81 := (Box.b pp b6)
        clear pp; have pp := pp_; clear pp_
        (try simp only [World.size_alloc, World.size_setCell, size_drew] at rw0)
        refine ⟨_, rfl, ⟨pc.two.1, pc.two.2.1, pp.three.1, pp.three.2.1, pp.three.2.2.1⟩, fun hS => ?_⟩
        (try simp only [Act.put, List.setIfInBounds_toArray, List.set_cons_zero, List.set_cons_succ])
        (refine tk 7 hS ?_; (try simp only [Act.put, List.setIfInBounds_toArray, List.set_cons_zero, List.set_cons_succ]))
        (refine tk 8 hS ?_; (try simp only [Act.put, List.setIfInBounds_toArray, List.set_cons_zero, List.set_cons_succ]))
        (refine tk 9 hS ?_; (try simp only [Act.put, List.setIfInBounds_toArray, List.set_cons_zero, List.set_cons_succ]))
        (refine tk 10 hS ?_; (try simp only [Act.put, List.setIfInBounds_toArray, List.set_cons_zero, List.set_cons_succ]))
        (refine tk 11 hS ?_; (try simp only [Act.put, List.setIfInBounds_toArray, List.set_cons_zero, List.set_cons_succ]))
        clear hS
        refine wpAnyH_done (by kernel_rfl) ?_ _
        obtain ⟨cpc_0, cpc_1, fpc_0, fpc_1⟩ := pc.two
        have l_pc_0 : w.heap.size < w6.heap.size := by omega
        go_wp2_with fail
        refine (toCircuit_L (RdL.cons (d := .gates cL0) cL0h.rd.b (RdL.cons (d := .ints cL1) cL1h.rd.b RdL.nil)) cL0n cL1n).mono ?_
        rintro e w7 ⟨xcA0, xcn0, xcc0, xcA1, xcn1, xcc1, rfl, rxc, b7⟩
        clear cpc_0 cpc_1 fpc_0 fpc_1 l_pc_0
        have z7 := b7.size
        try simp only [World.size_alloc, World.size_setCell, size_drew] at z7
        have B7 : Below w.heap.size w w7 := Below.t b7
        have rw0_ := rw0.below b7
        clear rw0; have rw0 := rw0_; clear rw0_
        have pc_ : Box w7 (w.heap.size) #[(.slice cA0 cn0 cc0), (.slice cA1 cn1 cc1)] 63 := pc.below b7 (by first | omega | (simp [size_drew]; done) | (simp [size_drew]; omega))
        clear pc; have pc := pc_; clear pc_
        have pp_ : Box w7 (w.heap.size + 1) #[(.slice pA0 pn0 pc0), (.slice pA1 pn1 pc1), (.slice pA2 pn2 pc2)] 81 := pp.below b7 (by first | omega | (simp [size_drew]; done) | (simp [size_drew]; omega))
        clear pp; have pp := pp_; clear pp_
        try simp only [World.size_alloc, World.size_setCell, size_drew] at rxc
        obtain ⟨cpp_0, cpp_1, cpp_2, fpp_0, fpp_1, fpp_2⟩ := pp.three
        have l_pp_0 : w.heap.size + 1 < w7.heap.size := by omega
        have l_pp_1 : w.heap.size + 1 < w7.heap.size + 1 := by omega
        go_wp2_with fail
        refine (toPublic_L (RdL.cons (d := .ints pL0) pL0h.rd.b (RdL.cons (d := .ints pL1) pL1h.rd.b (RdL.cons (d := .ints pL2) pL2h.rd.b RdL.nil))) pL0n pL1n pL2n).mono ?_
        rintro e w8 ⟨xpA0, xpn0, xpc0, xpA1, xpn1, xpc1, xpA2, xpn2, xpc2, rfl, rxp, b8⟩
        clear cpp_0 cpp_1 cpp_2 fpp_0 fpp_1 fpp_2 l_pp_0 l_pp_1
        have z8 := b8.size
        try simp only [World.size_alloc, World.size_setCell, size_drew] at z8
        have B8 : Below w.heap.size w w8 := Below.t b8
        have rw0_ := (rw0.alloc _).below b8
        clear rw0; have rw0 := rw0_; clear rw0_
        have rxc_ := (rxc.alloc _).below b8
        clear rxc; have rxc := rxc_; clear rxc_
        have pc_ : Box w8 (w.heap.size) #[(.slice cA0 cn0 cc0), (.slice cA1 cn1 cc1)] 63 := (pc.alloc _).below b8 (by first | omega | (simp [size_drew]; done) | (simp [size_drew]; omega))
        clear pc; have pc := pc_; clear pc_
        have pp_ : Box w8 (w.heap.size + 1) #[(.slice pA0 pn0 pc0), (.slice pA1 pn1 pc1), (.slice pA2 pn2 pc2)] 81 := (pp.alloc _).below b8 (by first | omega | (simp [size_drew]; done) | (simp [size_drew]; omega))
        clear pp; have pp := pp_; clear pp_
        have xc_ : Box w8 (w7.heap.size) #[(.slice xcA0 xcn0 xcc0), (.slice xcA1 xcn1 xcc1)] 27 := (Box.new (g := w7.heap.size) _ #[(.slice xcA0 xcn0 xcc0), (.slice xcA1 xcn1 xcc1)] 27 (by simp)).below b8 (by first | omega | (simp [size_drew]; done) | (simp [size_drew]; omega))
        have xc := xc_; clear xc_
        try simp only [World.size_alloc, World.size_setCell, size_drew] at rxp
        go_wp2_with fail
        refine (toIntS_L (RdL.cons (d := .ints yL0) yL0h.rd.b RdL.nil) yL0n).mono ?_
        rintro e w9 ⟨xyA0, xyn0, xyc0, rfl, rxy, b9⟩
        have z9 := b9.size
        try simp only [World.size_alloc, World.size_setCell, size_drew] at z9
        have B9 : Below w.heap.size w w9 := Below.t b9
        have rw0_ := (rw0.alloc _).below b9
        clear rw0; have rw0 := rw0_; clear rw0_
        have rxc_ := (rxc.alloc _).below b9
        clear rxc; have rxc := rxc_; clear rxc_
        have rxp_ := (rxp.alloc _).below b9
        clear rxp; have rxp := rxp_; clear rxp_
        have pc_ : Box w9 (w.heap.size) #[(.slice cA0 cn0 cc0), (.slice cA1 cn1 cc1)] 63 := (pc.alloc _).below b9 (by first | omega | (simp [size_drew]; done) | (simp [size_drew]; omega))
        clear pc; have pc := pc_; clear pc_
        have pp_ : Box w9 (w.heap.size + 1) #[(.slice pA0 pn0 pc0), (.slice pA1 pn1 pc1), (.slice pA2 pn2 pc2)] 81 := (pp.alloc _).below b9 (by first | omega | (simp [size_drew]; done) | (simp [size_drew]; omega))
        clear pp; have pp := pp_; clear pp_
        have xc_ : Box w9 (w7.heap.size) #[(.slice xcA0 xcn0 xcc0), (.slice xcA1 xcn1 xcc1)] 27 := (xc.alloc _).below b9 (by first | omega | (simp [size_drew]; done) | (simp [size_drew]; omega))
        clear xc; have xc := xc_; clear xc_
        have xp_ : Box w9 (w8.heap.size) #[(.slice xpA0 xpn0 xpc0), (.slice xpA1 xpn1 xpc1), (.slice xpA2 xpn2 xpc2)] 37 := (Box.new (g := w8.heap.size) _ #[(.slice xpA0 xpn0 xpc0), (.slice xpA1 xpn1 xpc1), (.slice xpA2 xpn2 xpc2)] 37 (by simp)).below b9 (by first | omega | (simp [size_drew]; done) | (simp [size_drew]; omega))
        have xp := xp_; clear xp_
        try simp only [World.size_alloc, World.size_setCell, size_drew] at rxy
        obtain ⟨cxc_0, cxc_1, fxc_0, fxc_1⟩ := xc.two
        have l_xc_0 : w7.heap.size < w9.heap.size := by omega
        obtain ⟨cxp_0, cxp_1, cxp_2, fxp_0, fxp_1, fxp_2⟩ := xp.three
        have l_xp_0 : w8.heap.size < w9.heap.size := by omega
        go_wp2_with fail
        refine (iEvalGarbled_L rxc.rd cL0n cL1n rxp.rd pL0n pL1n pL2n rxy.rd yL0n).mono ?_
        rintro e w10 ⟨g0A0, g0n0, g0c0, rfl, rg0, b10⟩
        clear cxc_0 cxc_1 fxc_0 fxc_1 l_xc_0 cxp_0 cxp_1 cxp_2 fxp_0 fxp_1 fxp_2 l_xp_0
        have z10 := b10.size
        try simp only [World.size_alloc, World.size_setCell, size_drew] at z10
        have B10 : Below w.heap.size w w10 := Below.t b10
        have rw0_ := rw0.below b10
        clear rw0; have rw0 := rw0_; clear rw0_
        have rxc_ := rxc.below b10
        clear rxc; have rxc := rxc_; clear rxc_
        have rxp_ := rxp.below b10
        clear rxp; have rxp := rxp_; clear rxp_
        have rxy_ := rxy.below b10
        clear rxy; have rxy := rxy_; clear rxy_
        have pc_ : Box w10 (w.heap.size) #[(.slice cA0 cn0 cc0), (.slice cA1 cn1 cc1)] 63 := pc.below b10 (by first | omega | (simp [size_drew]; done) | (simp [size_drew]; omega))
        clear pc; have pc := pc_; clear pc_
        have pp_ : Box w10 (w.heap.size + 1) #[(.slice pA0 pn0 pc0), (.slice pA1 pn1 pc1), (.slice pA2 pn2 pc2)] 81 := pp.below b10 (by first | omega | (simp [size_drew]; done) | (simp [size_drew]; omega))
        clear pp; have pp := pp_; clear pp_
        have xc_ : Box w10 (w7.heap.size) #[(.slice xcA0 xcn0 xcc0), (.slice xcA1 xcn1 xcc1)] 27 := xc.below b10 (by first | omega | (simp [size_drew]; done) | (simp [size_drew]; omega))
        clear xc; have xc := xc_; clear xc_
        have xp_ : Box w10 (w8.heap.size) #[(.slice xpA0 xpn0 xpc0), (.slice xpA1 xpn1 xpc1), (.slice xpA2 xpn2 xpc2)] 37 := xp.below b10 (by first | omega | (simp [size_drew]; done) | (simp [size_drew]; omega))
        clear xp; have xp := xp_; clear xp_
        try simp only [World.size_alloc, World.size_setCell, size_drew] at rg0
        go_wp2_with fail
        refine (eqIntS_L rg0.rd rw0.rd rL0_0n).mono ?_
        rintro e w11 ⟨rfl, b11⟩
        have z11 := b11.size
        try simp only [World.size_alloc, World.size_setCell, size_drew] at z11
        have B11 : Below w.heap.size w w11 := Below.t b11
        have rw0_ := rw0.below b11
        clear rw0; have rw0 := rw0_; clear rw0_
        have rxc_ := rxc.below b11
        clear rxc; have rxc := rxc_; clear rxc_
        have rxp_ := rxp.below b11
        clear rxp; have rxp := rxp_; clear rxp_
        have rxy_ := rxy.below b11
        clear rxy; have rxy := rxy_; clear rxy_
        have rg0_ := rg0.below b11
        clear rg0; have rg0 := rg0_; clear rg0_
        have pc_ : Box w11 (w.heap.size) #[(.slice cA0 cn0 cc0), (.slice cA1 cn1 cc1)] 63 := pc.below b11 (by first | omega | (simp [size_drew]; done) | (simp [size_drew]; omega))
        clear pc; have pc := pc_; clear pc_
        have pp_ : Box w11 (w.heap.size + 1) #[(.slice pA0 pn0 pc0), (.slice pA1 pn1 pc1), (.slice pA2 pn2 pc2)] 81 := pp.below b11 (by first | omega | (simp [size_drew]; done) | (simp [size_drew]; omega))
        clear pp; have pp := pp_; clear pp_
        have xc_ : Box w11 (w7.heap.size) #[(.slice xcA0 xcn0 xcc0), (.slice xcA1 xcn1 xcc1)] 27 := xc.below b11 (by first | omega | (simp [size_drew]; done) | (simp [size_drew]; omega))
        clear xc; have xc := xc_; clear xc_
        have xp_ : Box w11 (w8.heap.size) #[(.slice xpA0 xpn0 xpc0), (.slice xpA1 xpn1 xpc1), (.slice xpA2 xpn2 xpc2)] 37 := xp.below b11 (by first | omega | (simp [size_drew]; done) | (simp [size_drew]; omega))
        clear xp; have xp := xp_; clear xp_
        obtain ⟨cpc_0, cpc_1, fpc_0, fpc_1⟩ := pc.two
        have l_pc_0 : w.heap.size < w11.heap.size := by omega
        obtain ⟨cxc_0, cxc_1, fxc_0, fxc_1⟩ := xc.two
        have l_xc_0 : w7.heap.size < w11.heap.size := by omega
        go_wp2_with fail
        clear cpc_0 cpc_1 fpc_0 fpc_1 l_pc_0 cxc_0 cxc_1 fxc_0 fxc_1 l_xc_0
        refine wp_region_held_drew (S := fun W => W.cell? ⟨w.heap.size, 0, none⟩ = some ((.slice cA0 cn0 cc0)) ∧ W.cell? ⟨w.heap.size, 1, none⟩ = some ((.slice cA1 cn1 cc1)) ∧ W.cell? ⟨w7.heap.size, 0, none⟩ = some ((.slice xcA0 xcn0 xcc0)) ∧ W.cell? ⟨w7.heap.size, 1, none⟩ = some ((.slice xcA1 xcn1 xcc1))) (by kernel_rfl) ⟨pc.drew.two.1, pc.drew.two.2.1, xc.drew.two.1, xc.drew.two.2.1⟩ (fun hS => ?_)
        (refine tk 0 hS ?_; (try simp only [Act.put, List.setIfInBounds_toArray, List.set_cons_zero, List.set_cons_succ]))
        (refine tk 1 hS ?_; (try simp only [Act.put, List.setIfInBounds_toArray, List.set_cons_zero, List.set_cons_succ]))
        refine on 2 ?_
        refine callH (by go_simp; (first | done | with_reducible rfl | exact ⟨rfl, rfl⟩)) ?_
        go_at_call 49
        refine (toCircuit_L (RdL.cons (d := .gates cL0) cL0h.rd.b (RdL.cons (d := .ints cL1) cL1h.rd.b RdL.nil)) cL0n cL1n).mono ?_
        rintro e w12 ⟨zcA0, zcn0, zcc0, zcA1, zcn1, zcc1, rfl, rzc, b12⟩
        clear hS
        have z12 := Below.size b12
        (try simp only [World.size_alloc, World.size_setCell, size_drew] at z12)
        have B12 : Below w.heap.size w w12 := Below.t b12
        have rw0_ := (rw0.drew.below b12)
        clear rw0; have rw0 := rw0_; clear rw0_
        have rxc_ := (rxc.drew.below b12)
        clear rxc; have rxc := rxc_; clear rxc_
        have rxp_ := (rxp.drew.below b12)
        clear rxp; have rxp := rxp_; clear rxp_
        have rxy_ := (rxy.drew.below b12)
        clear rxy; have rxy := rxy_; clear rxy_
        have rg0_ := (rg0.drew.below b12)
        clear rg0; have rg0 := rg0_; clear rg0_
        have pc_ : Box w12 (w.heap.size) #[(.slice cA0 cn0 cc0), (.slice cA1 cn1 cc1)] 63 := (Box.b pc.drew b12)
        clear pc; have pc := pc_; clear pc_
        have pp_ : Box w12 (w.heap.size + 1) #[(.slice pA0 pn0 pc0), (.slice pA1 pn1 pc1), (.slice pA2 pn2 pc2)] 81 := (Box.b pp.drew b12)
        clear pp; have pp := pp_; clear pp_
        have xc_ : Box w12 (w7.heap.size) #[(.slice xcA0 xcn0 xcc0), (.slice xcA1 xcn1 xcc1)] 27 := (Box.b xc.drew b12)
        clear xc; have xc := xc_; clear xc_
        have xp_ : Box w12 (w8.heap.size) #[(.slice xpA0 xpn0 xpc0), (.slice xpA1 xpn1 xpc1), (.slice xpA2 xpn2 xpc2)] 37 := (Box.b xp.drew b12)
        clear xp; have xp := xp_; clear xp_
        (try simp only [World.size_alloc, World.size_setCell, size_drew] at rzc)
        refine ⟨_, rfl, ⟨pc.two.1, pc.two.2.1, xc.two.1, xc.two.2.1⟩, fun hS => ?_⟩
        (try simp only [Act.put, List.setIfInBounds_toArray, List.set_cons_zero, List.set_cons_succ])
        refine on 3 ?_
        refine callH (by go_simp; (first | done | with_reducible rfl | exact ⟨rfl, rfl⟩)) ?_
        go_at_call 51
        refine (eqCircuit_L rxc.rd rzc.rd cL0n cL1n).mono ?_
        rintro e w13 ⟨rfl, b13⟩
        clear hS
        have z13 := Below.size b13
        (try simp only [World.size_alloc, World.size_setCell, size_drew] at z13)
        have B13 : Below w.heap.size w w13 := Below.t b13
        have rw0_ := (rw0.below b13)
        clear rw0; have rw0 := rw0_; clear rw0_
        have rxc_ := (rxc.below b13)
        clear rxc; have rxc := rxc_; clear rxc_
        have rxp_ := (rxp.below b13)
        clear rxp; have rxp := rxp_; clear rxp_
        have rxy_ := (rxy.below b13)
        clear rxy; have rxy := rxy_; clear rxy_
        have rg0_ := (rg0.below b13)
        clear rg0; have rg0 := rg0_; clear rg0_
        have rzc_ := (rzc.below b13)
        clear rzc; have rzc := rzc_; clear rzc_
        have pc_ : Box w13 (w.heap.size) #[(.slice cA0 cn0 cc0), (.slice cA1 cn1 cc1)] 63 := (Box.b pc b13)
        clear pc; have pc := pc_; clear pc_
        have pp_ : Box w13 (w.heap.size + 1) #[(.slice pA0 pn0 pc0), (.slice pA1 pn1 pc1), (.slice pA2 pn2 pc2)] 81 := (Box.b pp b13)
        clear pp; have pp := pp_; clear pp_
        have xc_ : Box w13 (w7.heap.size) #[(.slice xcA0 xcn0 xcc0), (.slice xcA1 xcn1 xcc1)] 27 := (Box.b xc b13)
        clear xc; have xc := xc_; clear xc_
        have xp_ : Box w13 (w8.heap.size) #[(.slice xpA0 xpn0 xpc0), (.slice xpA1 xpn1 xpc1), (.slice xpA2 xpn2 xpc2)] 37 := (Box.b xp b13)
        clear xp; have xp := xp_; clear xp_
        refine ⟨_, rfl, ⟨pc.two.1, pc.two.2.1, xc.two.1, xc.two.2.1⟩, fun hS => ?_⟩
        (try simp only [Act.put, List.setIfInBounds_toArray, List.set_cons_zero, List.set_cons_succ])
        (refine tk 4 hS ?_; (try simp only [Act.put, List.setIfInBounds_toArray, List.set_cons_zero, List.set_cons_succ]))
        clear hS
        refine wpAnyH_done (by kernel_rfl) ?_ _
        obtain ⟨cpp_0, cpp_1, cpp_2, fpp_0, fpp_1, fpp_2⟩ := pp.three
        have l_pp_0 : w.heap.size + 1 < w13.heap.size := by omega
        obtain ⟨cxp_0, cxp_1, cxp_2, fxp_0, fxp_1, fxp_2⟩ := xp.three
        have l_xp_0 : w8.heap.size < w13.heap.size := by omega
        go_wp2_with fail
        clear cpp_0 cpp_1 cpp_2 fpp_0 fpp_1 fpp_2 l_pp_0 cxp_0 cxp_1 cxp_2 fxp_0 fxp_1 fxp_2 l_xp_0
        refine wp_region_held_drew (S := fun W => W.cell? ⟨w.heap.size + 1, 0, none⟩ = some ((.slice pA0 pn0 pc0)) ∧ W.cell? ⟨w.heap.size + 1, 1, none⟩ = some ((.slice pA1 pn1 pc1)) ∧ W.cell? ⟨w.heap.size + 1, 2, none⟩ = some ((.slice pA2 pn2 pc2)) ∧ W.cell? ⟨w8.heap.size, 0, none⟩ = some ((.slice xpA0 xpn0 xpc0)) ∧ W.cell? ⟨w8.heap.size, 1, none⟩ = some ((.slice xpA1 xpn1 xpc1)) ∧ W.cell? ⟨w8.heap.size, 2, none⟩ = some ((.slice xpA2 xpn2 xpc2))) (by kernel_rfl) ⟨pp.drew.three.1, pp.drew.three.2.1, pp.drew.three.2.2.1, xp.drew.three.1, xp.drew.three.2.1, xp.drew.three.2.2.1⟩ (fun hS => ?_)
        (refine tk 0 hS ?_; (try simp only [Act.put, List.setIfInBounds_toArray, List.set_cons_zero, List.set_cons_succ]))
        (refine tk 1 hS ?_; (try simp only [Act.put, List.setIfInBounds_toArray, List.set_cons_zero, List.set_cons_succ]))
        refine on 2 ?_
        refine callH (by go_simp; (first | done | with_reducible rfl | exact ⟨rfl, rfl⟩)) ?_
        go_at_call 64
        refine (toPublic_L (RdL.cons (d := .ints pL0) pL0h.rd.b (RdL.cons (d := .ints pL1) pL1h.rd.b (RdL.cons (d := .ints pL2) pL2h.rd.b RdL.nil))) pL0n pL1n pL2n).mono ?_
        rintro e w14 ⟨zpA0, zpn0, zpc0, zpA1, zpn1, zpc1, zpA2, zpn2, zpc2, rfl, rzp, b14⟩
        clear hS
        have z14 := Below.size b14
        (try simp only [World.size_alloc, World.size_setCell, size_drew] at z14)
        have B14 : Below w.heap.size w w14 := Below.t b14
        have rw0_ := (rw0.drew.below b14)
        clear rw0; have rw0 := rw0_; clear rw0_
        have rxc_ := (rxc.drew.below b14)
        clear rxc; have rxc := rxc_; clear rxc_
        have rxp_ := (rxp.drew.below b14)
        clear rxp; have rxp := rxp_; clear rxp_
        have rxy_ := (rxy.drew.below b14)
        clear rxy; have rxy := rxy_; clear rxy_
        have rg0_ := (rg0.drew.below b14)
        clear rg0; have rg0 := rg0_; clear rg0_
        have pc_ : Box w14 (w.heap.size) #[(.slice cA0 cn0 cc0), (.slice cA1 cn1 cc1)] 63 := (Box.b pc.drew b14)
        clear pc; have pc := pc_; clear pc_
        have pp_ : Box w14 (w.heap.size + 1) #[(.slice pA0 pn0 pc0), (.slice pA1 pn1 pc1), (.slice pA2 pn2 pc2)] 81 := (Box.b pp.drew b14)
        clear pp; have pp := pp_; clear pp_
        have xc_ : Box w14 (w7.heap.size) #[(.slice xcA0 xcn0 xcc0), (.slice xcA1 xcn1 xcc1)] 27 := (Box.b xc.drew b14)
        clear xc; have xc := xc_; clear xc_
        have xp_ : Box w14 (w8.heap.size) #[(.slice xpA0 xpn0 xpc0), (.slice xpA1 xpn1 xpc1), (.slice xpA2 xpn2 xpc2)] 37 := (Box.b xp.drew b14)
        clear xp; have xp := xp_; clear xp_
        (try simp only [World.size_alloc, World.size_setCell, size_drew] at rzp)
        refine ⟨_, rfl, ⟨pp.three.1, pp.three.2.1, pp.three.2.2.1, xp.three.1, xp.three.2.1, xp.three.2.2.1⟩, fun hS => ?_⟩
        (try simp only [Act.put, List.setIfInBounds_toArray, List.set_cons_zero, List.set_cons_succ])
        refine on 3 ?_
        refine callH (by go_simp; (first | done | with_reducible rfl | exact ⟨rfl, rfl⟩)) ?_
        go_at_call 65
        refine (eqPublic_L rxp.rd rzp.rd pL0n pL1n pL2n).mono ?_
        rintro e w15 ⟨rfl, b15⟩
        clear hS
        have z15 := Below.size b15
        (try simp only [World.size_alloc, World.size_setCell, size_drew] at z15)
        have B15 : Below w.heap.size w w15 := Below.t b15
        have rw0_ := (rw0.below b15)
        clear rw0; have rw0 := rw0_; clear rw0_
        have rxc_ := (rxc.below b15)
        clear rxc; have rxc := rxc_; clear rxc_
        have rxp_ := (rxp.below b15)
        clear rxp; have rxp := rxp_; clear rxp_
        have rxy_ := (rxy.below b15)
        clear rxy; have rxy := rxy_; clear rxy_
        have rg0_ := (rg0.below b15)
        clear rg0; have rg0 := rg0_; clear rg0_
        have rzp_ := (rzp.below b15)
        clear rzp; have rzp := rzp_; clear rzp_
        have pc_ : Box w15 (w.heap.size) #[(.slice cA0 cn0 cc0), (.slice cA1 cn1 cc1)] 63 := (Box.b pc b15)
        clear pc; have pc := pc_; clear pc_
        have pp_ : Box w15 (w.heap.size + 1) #[(.slice pA0 pn0 pc0), (.slice pA1 pn1 pc1), (.slice pA2 pn2 pc2)] 81 := (Box.b pp b15)
        clear pp; have pp := pp_; clear pp_
        have xc_ : Box w15 (w7.heap.size) #[(.slice xcA0 xcn0 xcc0), (.slice xcA1 xcn1 xcc1)] 27 := (Box.b xc b15)
        clear xc; have xc := xc_; clear xc_
        have xp_ : Box w15 (w8.heap.size) #[(.slice xpA0 xpn0 xpc0), (.slice xpA1 xpn1 xpc1), (.slice xpA2 xpn2 xpc2)] 37 := (Box.b xp b15)
        clear xp; have xp := xp_; clear xp_
        refine ⟨_, rfl, ⟨pp.three.1, pp.three.2.1, pp.three.2.2.1, xp.three.1, xp.three.2.1, xp.three.2.2.1⟩, fun hS => ?_⟩
        (try simp only [Act.put, List.setIfInBounds_toArray, List.set_cons_zero, List.set_cons_succ])
        (refine tk 4 hS ?_; (try simp only [Act.put, List.setIfInBounds_toArray, List.set_cons_zero, List.set_cons_succ]))
        clear hS
        refine wpAnyH_done (by kernel_rfl) ?_ _
        go_wp2_with fail
        refine (toIntS_L (RdL.cons (d := .ints yL0) yL0h.rd.b RdL.nil) yL0n).mono ?_
        rintro e w16 ⟨zyA0, zyn0, zyc0, rfl, rzy, b16⟩
        have z16 := b16.size
        try simp only [World.size_alloc, World.size_setCell, size_drew] at z16
        have B16 : Below w.heap.size w w16 := Below.t b16
        have rw0_ := rw0.below b16
        clear rw0; have rw0 := rw0_; clear rw0_
        have rxc_ := rxc.below b16
        clear rxc; have rxc := rxc_; clear rxc_
        have rxp_ := rxp.below b16
        clear rxp; have rxp := rxp_; clear rxp_
        have rxy_ := rxy.below b16
        clear rxy; have rxy := rxy_; clear rxy_
        have rg0_ := rg0.below b16
        clear rg0; have rg0 := rg0_; clear rg0_
        have pc_ : Box w16 (w.heap.size) #[(.slice cA0 cn0 cc0), (.slice cA1 cn1 cc1)] 63 := pc.below b16 (by first | omega | (simp [size_drew]; done) | (simp [size_drew]; omega))
        clear pc; have pc := pc_; clear pc_
        have pp_ : Box w16 (w.heap.size + 1) #[(.slice pA0 pn0 pc0), (.slice pA1 pn1 pc1), (.slice pA2 pn2 pc2)] 81 := pp.below b16 (by first | omega | (simp [size_drew]; done) | (simp [size_drew]; omega))
        clear pp; have pp := pp_; clear pp_
        have xc_ : Box w16 (w7.heap.size) #[(.slice xcA0 xcn0 xcc0), (.slice xcA1 xcn1 xcc1)] 27 := xc.below b16 (by first | omega | (simp [size_drew]; done) | (simp [size_drew]; omega))
        clear xc; have xc := xc_; clear xc_
        have xp_ : Box w16 (w8.heap.size) #[(.slice xpA0 xpn0 xpc0), (.slice xpA1 xpn1 xpc1), (.slice xpA2 xpn2 xpc2)] 37 := xp.below b16 (by first | omega | (simp [size_drew]; done) | (simp [size_drew]; omega))
        clear xp; have xp := xp_; clear xp_
        try simp only [World.size_alloc, World.size_setCell, size_drew] at rzy
        go_wp2_with fail
        refine (eqIntS_L rxy.rd rzy.rd yL0n).mono ?_
        rintro e w17 ⟨rfl, b17⟩
        have z17 := b17.size
        try simp only [World.size_alloc, World.size_setCell, size_drew] at z17
        have B17 : Below w.heap.size w w17 := Below.t b17
        have rw0_ := rw0.below b17
        clear rw0; have rw0 := rw0_; clear rw0_
        have rxc_ := rxc.below b17
        clear rxc; have rxc := rxc_; clear rxc_
        have rxp_ := rxp.below b17
        clear rxp; have rxp := rxp_; clear rxp_
        have rxy_ := rxy.below b17
        clear rxy; have rxy := rxy_; clear rxy_
        have rg0_ := rg0.below b17
        clear rg0; have rg0 := rg0_; clear rg0_
        have rzy_ := rzy.below b17
        clear rzy; have rzy := rzy_; clear rzy_
        have pc_ : Box w17 (w.heap.size) #[(.slice cA0 cn0 cc0), (.slice cA1 cn1 cc1)] 63 := pc.below b17 (by first | omega | (simp [size_drew]; done) | (simp [size_drew]; omega))
        clear pc; have pc := pc_; clear pc_
        have pp_ : Box w17 (w.heap.size + 1) #[(.slice pA0 pn0 pc0), (.slice pA1 pn1 pc1), (.slice pA2 pn2 pc2)] 81 := pp.below b17 (by first | omega | (simp [size_drew]; done) | (simp [size_drew]; omega))
        clear pp; have pp := pp_; clear pp_
        have xc_ : Box w17 (w7.heap.size) #[(.slice xcA0 xcn0 xcc0), (.slice xcA1 xcn1 xcc1)] 27 := xc.below b17 (by first | omega | (simp [size_drew]; done) | (simp [size_drew]; omega))
        clear xc; have xc := xc_; clear xc_
        have xp_ : Box w17 (w8.heap.size) #[(.slice xpA0 xpn0 xpc0), (.slice xpA1 xpn1 xpc1), (.slice xpA2 xpn2 xpc2)] 37 := xp.below b17 (by first | omega | (simp [size_drew]; done) | (simp [size_drew]; omega))
        clear xp; have xp := xp_; clear xp_
        obtain ⟨cxc_0, cxc_1, fxc_0, fxc_1⟩ := xc.two
        have l_xc_0 : w7.heap.size < w17.heap.size := by omega
        go_wp2_with fail
        refine (markCircuit_L (1) _ rxc (by first | omega | (simp [size_drew]; done) | (simp [size_drew]; omega)) (by omega) cL0n cL1n).mono ?_
        rintro e w18 ⟨rfl, rxc, c18⟩
        clear cxc_0 cxc_1 fxc_0 fxc_1 l_xc_0
        have z18 := c18.size
        try simp only [World.size_alloc, World.size_setCell, size_drew] at z18
        have rw0_ := rw0.away c18 (by omega)
        clear rw0; have rw0 := rw0_; clear rw0_
        have rxp_ := rxp.away c18 (by omega)
        clear rxp; have rxp := rxp_; clear rxp_
        have rxy_ := rxy.away c18 (by omega)
        clear rxy; have rxy := rxy_; clear rxy_
        have rg0_ := rg0.away c18 (by omega)
        clear rg0; have rg0 := rg0_; clear rg0_
        have pc_ : Box w18 (w.heap.size) #[(.slice cA0 cn0 cc0), (.slice cA1 cn1 cc1)] 63 := pc.chg c18 (by omega)
        clear pc; have pc := pc_; clear pc_
        have pp_ : Box w18 (w.heap.size + 1) #[(.slice pA0 pn0 pc0), (.slice pA1 pn1 pc1), (.slice pA2 pn2 pc2)] 81 := pp.chg c18 (by omega)
        clear pp; have pp := pp_; clear pp_
        have xc_ : Box w18 (w7.heap.size) #[(.slice xcA0 xcn0 xcc0), (.slice xcA1 xcn1 xcc1)] 27 := xc.chg c18 (by omega)
        clear xc; have xc := xc_; clear xc_
        have xp_ : Box w18 (w8.heap.size) #[(.slice xpA0 xpn0 xpc0), (.slice xpA1 xpn1 xpc1), (.slice xpA2 xpn2 xpc2)] 37 := xp.chg c18 (by omega)
        clear xp; have xp := xp_; clear xp_
        have B18 : Below w.heap.size w w18 := B17.trans (c18.below (by omega) (by omega))
        obtain ⟨cxp_0, cxp_1, cxp_2, fxp_0, fxp_1, fxp_2⟩ := xp.three
        have l_xp_0 : w8.heap.size < w18.heap.size := by omega
        go_wp2_with fail
        refine (markPublic_L (1 + (3 * cL0.length + cL1.length)) _ rxp (by first | omega | (simp [size_drew]; done) | (simp [size_drew]; omega)) (by omega) pL0n pL1n pL2n).mono ?_
        rintro e w19 ⟨rfl, rxp, c19⟩
        clear cxp_0 cxp_1 cxp_2 fxp_0 fxp_1 fxp_2 l_xp_0
        have z19 := c19.size
        try simp only [World.size_alloc, World.size_setCell, size_drew] at z19
        have rw0_ := rw0.away c19 (by omega)
        clear rw0; have rw0 := rw0_; clear rw0_
        have rxy_ := rxy.away c19 (by omega)
        clear rxy; have rxy := rxy_; clear rxy_
        have rg0_ := rg0.away c19 (by omega)
        clear rg0; have rg0 := rg0_; clear rg0_
        have rxc_ := rxc.away c19 (by omega)
        clear rxc; have rxc := rxc_; clear rxc_
        have pc_ : Box w19 (w.heap.size) #[(.slice cA0 cn0 cc0), (.slice cA1 cn1 cc1)] 63 := pc.chg c19 (by omega)
        clear pc; have pc := pc_; clear pc_
        have pp_ : Box w19 (w.heap.size + 1) #[(.slice pA0 pn0 pc0), (.slice pA1 pn1 pc1), (.slice pA2 pn2 pc2)] 81 := pp.chg c19 (by omega)
        clear pp; have pp := pp_; clear pp_
        have xc_ : Box w19 (w7.heap.size) #[(.slice xcA0 xcn0 xcc0), (.slice xcA1 xcn1 xcc1)] 27 := xc.chg c19 (by omega)
        clear xc; have xc := xc_; clear xc_
        have xp_ : Box w19 (w8.heap.size) #[(.slice xpA0 xpn0 xpc0), (.slice xpA1 xpn1 xpc1), (.slice xpA2 xpn2 xpc2)] 37 := xp.chg c19 (by omega)
        clear xp; have xp := xp_; clear xp_
        have B19 : Below w.heap.size w w19 := B18.trans (c19.below (by omega) (by omega))
        go_wp2_with fail
        refine (markIntS_L (pre := []) (post := []) (1 + (3 * cL0.length + cL1.length) + (pL0.length + pL1.length + pL2.length)) _ rxy (by first | omega | (simp [size_drew]; done) | (simp [size_drew]; omega)) (by omega) yL0n).mono ?_
        rintro e w20 ⟨rfl, rxy, c20⟩
        have z20 := c20.size
        try simp only [World.size_alloc, World.size_setCell, size_drew] at z20
        have rw0_ := rw0.away c20 (by omega)
        clear rw0; have rw0 := rw0_; clear rw0_
        have rg0_ := rg0.away c20 (by omega)
        clear rg0; have rg0 := rg0_; clear rg0_
        have rxc_ := rxc.away c20 (by omega)
        clear rxc; have rxc := rxc_; clear rxc_
        have rxp_ := rxp.away c20 (by omega)
        clear rxp; have rxp := rxp_; clear rxp_
        have pc_ : Box w20 (w.heap.size) #[(.slice cA0 cn0 cc0), (.slice cA1 cn1 cc1)] 63 := pc.chg c20 (by omega)
        clear pc; have pc := pc_; clear pc_
        have pp_ : Box w20 (w.heap.size + 1) #[(.slice pA0 pn0 pc0), (.slice pA1 pn1 pc1), (.slice pA2 pn2 pc2)] 81 := pp.chg c20 (by omega)
        clear pp; have pp := pp_; clear pp_
        have xc_ : Box w20 (w7.heap.size) #[(.slice xcA0 xcn0 xcc0), (.slice xcA1 xcn1 xcc1)] 27 := xc.chg c20 (by omega)
        clear xc; have xc := xc_; clear xc_
        have xp_ : Box w20 (w8.heap.size) #[(.slice xpA0 xpn0 xpc0), (.slice xpA1 xpn1 xpc1), (.slice xpA2 xpn2 xpc2)] 37 := xp.chg c20 (by omega)
        clear xp; have xp := xp_; clear xp_
        have B20 : Below w.heap.size w w20 := B19.trans (c20.below (by omega) (by omega))
        go_wp2_with fail
        refine (eqIntS_L rg0.rd rw0.rd rL0_0n).mono ?_
        rintro e w21 ⟨rfl, b21⟩
        have z21 := b21.size
        try simp only [World.size_alloc, World.size_setCell, size_drew] at z21
        have B21 : Below w.heap.size w w21 := Below.t b21
        have rw0_ := rw0.below b21
        clear rw0; have rw0 := rw0_; clear rw0_
        have rg0_ := rg0.below b21
        clear rg0; have rg0 := rg0_; clear rg0_
        have rxc_ := rxc.below b21
        clear rxc; have rxc := rxc_; clear rxc_
        have rxp_ := rxp.below b21
        clear rxp; have rxp := rxp_; clear rxp_
        have rxy_ := rxy.below b21
        clear rxy; have rxy := rxy_; clear rxy_
        have pc_ : Box w21 (w.heap.size) #[(.slice cA0 cn0 cc0), (.slice cA1 cn1 cc1)] 63 := pc.below b21 (by first | omega | (simp [size_drew]; done) | (simp [size_drew]; omega))
        clear pc; have pc := pc_; clear pc_
        have pp_ : Box w21 (w.heap.size + 1) #[(.slice pA0 pn0 pc0), (.slice pA1 pn1 pc1), (.slice pA2 pn2 pc2)] 81 := pp.below b21 (by first | omega | (simp [size_drew]; done) | (simp [size_drew]; omega))
        clear pp; have pp := pp_; clear pp_
        have xc_ : Box w21 (w7.heap.size) #[(.slice xcA0 xcn0 xcc0), (.slice xcA1 xcn1 xcc1)] 27 := xc.below b21 (by first | omega | (simp [size_drew]; done) | (simp [size_drew]; omega))
        clear xc; have xc := xc_; clear xc_
        have xp_ : Box w21 (w8.heap.size) #[(.slice xpA0 xpn0 xpc0), (.slice xpA1 xpn1 xpc1), (.slice xpA2 xpn2 xpc2)] 37 := xp.below b21 (by first | omega | (simp [size_drew]; done) | (simp [size_drew]; omega))
        clear xp; have xp := xp_; clear xp_
        go_wp2_with fail
        refine (markIntS_L (pre := []) (post := []) (1) _ rg0 (by first | omega | (simp [size_drew]; done) | (simp [size_drew]; omega)) (by omega) rL0_0n).mono ?_
        rintro e w22 ⟨rfl, rg0, c22⟩
        have z22 := c22.size
        try simp only [World.size_alloc, World.size_setCell, size_drew] at z22
        have rw0_ := rw0.away c22 (by omega)
        clear rw0; have rw0 := rw0_; clear rw0_
        have pc_ : Box w22 (w.heap.size) #[(.slice cA0 cn0 cc0), (.slice cA1 cn1 cc1)] 63 := pc.chg c22 (by omega)
        clear pc; have pc := pc_; clear pc_
        have pp_ : Box w22 (w.heap.size + 1) #[(.slice pA0 pn0 pc0), (.slice pA1 pn1 pc1), (.slice pA2 pn2 pc2)] 81 := pp.chg c22 (by omega)
        clear pp; have pp := pp_; clear pp_
        have B22 : Below w.heap.size w w22 := B21.trans (c22.below (by omega) (by omega))
        go_wp2_with fail
        refine (heldIntS_L (evL cL0 cL1 pL0 pL1 pL2 yL0).length (1) _ rg0.rd (by first | omega | (simp [size_drew]; done) | (simp [size_drew]; omega)) (by omega) rL0_0n).mono ?_
        rintro e w_ ⟨rfl, rfl⟩
        obtain ⟨cpc_0, cpc_1, fpc_0, fpc_1⟩ := pc.two
        have l_pc_0 : w.heap.size < w22.heap.size := by omega
        obtain ⟨cpp_0, cpp_1, cpp_2, fpp_0, fpp_1, fpp_2⟩ := pp.three
        have l_pp_0 : w.heap.size + 1 < w22.heap.size := by omega
        go_wp2_with fail
        clear cpc_0 cpc_1 fpc_0 fpc_1 l_pc_0 cpp_0 cpp_1 cpp_2 fpp_0 fpp_1 fpp_2 l_pp_0
        refine wp_region_held_drew (S := fun W => W.cell? ⟨w.heap.size, 0, none⟩ = some ((.slice cA0 cn0 cc0)) ∧ W.cell? ⟨w.heap.size, 1, none⟩ = some ((.slice cA1 cn1 cc1)) ∧ W.cell? ⟨w.heap.size + 1, 0, none⟩ = some ((.slice pA0 pn0 pc0)) ∧ W.cell? ⟨w.heap.size + 1, 1, none⟩ = some ((.slice pA1 pn1 pc1)) ∧ W.cell? ⟨w.heap.size + 1, 2, none⟩ = some ((.slice pA2 pn2 pc2))) (by kernel_rfl) ⟨pc.drew.two.1, pc.drew.two.2.1, pp.drew.three.1, pp.drew.three.2.1, pp.drew.three.2.2.1⟩ (fun hS => ?_)
        (refine tk 0 hS ?_; (try simp only [Act.put, List.setIfInBounds_toArray, List.set_cons_zero, List.set_cons_succ]))
        (refine tk 2 hS ?_; (try simp only [Act.put, List.setIfInBounds_toArray, List.set_cons_zero, List.set_cons_succ]))
        (refine tk 4 hS ?_; (try simp only [Act.put, List.setIfInBounds_toArray, List.set_cons_zero, List.set_cons_succ]))
        refine on 1 ?_
        refine callH (by go_simp; (first | done | with_reducible rfl | exact ⟨rfl, rfl⟩)) ?_
        go_at_call 49
        refine (toCircuit_L (RdL.cons (d := .gates cL0) cL0h.rd.b (RdL.cons (d := .ints cL1) cL1h.rd.b RdL.nil)) cL0n cL1n).mono ?_
        rintro e w23 ⟨tcA0, tcn0, tcc0, tcA1, tcn1, tcc1, rfl, rtc, b23⟩
        clear hS
        have z23 := Below.size b23
        (try simp only [World.size_alloc, World.size_setCell, size_drew] at z23)
        have B23 : Below w.heap.size w w23 := Below.t b23
        have rw0_ := (rw0.drew.below b23)
        clear rw0; have rw0 := rw0_; clear rw0_
        have rg0_ := (rg0.drew.below b23)
        clear rg0; have rg0 := rg0_; clear rg0_
        have pc_ : Box w23 (w.heap.size) #[(.slice cA0 cn0 cc0), (.slice cA1 cn1 cc1)] 63 := (Box.b pc.drew b23)
        clear pc; have pc := pc_; clear pc_
        have pp_ : Box w23 (w.heap.size + 1) #[(.slice pA0 pn0 pc0), (.slice pA1 pn1 pc1), (.slice pA2 pn2 pc2)] 81 := (Box.b pp.drew b23)
        clear pp; have pp := pp_; clear pp_
        (try simp only [World.size_alloc, World.size_setCell, size_drew] at rtc)
        refine ⟨_, rfl, ⟨pc.two.1, pc.two.2.1, pp.three.1, pp.three.2.1, pp.three.2.2.1⟩, fun hS => ?_⟩
        (try simp only [Act.put, List.setIfInBounds_toArray, List.set_cons_zero, List.set_cons_succ])
        refine on 3 ?_
        refine callH (by go_simp; (first | done | with_reducible rfl | exact ⟨rfl, rfl⟩)) ?_
        go_at_call 64
        refine (toPublic_L (RdL.cons (d := .ints pL0) pL0h.rd.b (RdL.cons (d := .ints pL1) pL1h.rd.b (RdL.cons (d := .ints pL2) pL2h.rd.b RdL.nil))) pL0n pL1n pL2n).mono ?_
        rintro e w24 ⟨tpA0, tpn0, tpc0, tpA1, tpn1, tpc1, tpA2, tpn2, tpc2, rfl, rtp, b24⟩
        clear hS
        have z24 := Below.size b24
        (try simp only [World.size_alloc, World.size_setCell, size_drew] at z24)
        have B24 : Below w.heap.size w w24 := Below.t b24
        have rw0_ := (rw0.below b24)
        clear rw0; have rw0 := rw0_; clear rw0_
        have rg0_ := (rg0.below b24)
        clear rg0; have rg0 := rg0_; clear rg0_
        have rtc_ := (rtc.below b24)
        clear rtc; have rtc := rtc_; clear rtc_
        have pc_ : Box w24 (w.heap.size) #[(.slice cA0 cn0 cc0), (.slice cA1 cn1 cc1)] 63 := (Box.b pc b24)
        clear pc; have pc := pc_; clear pc_
        have pp_ : Box w24 (w.heap.size + 1) #[(.slice pA0 pn0 pc0), (.slice pA1 pn1 pc1), (.slice pA2 pn2 pc2)] 81 := (Box.b pp b24)
        clear pp; have pp := pp_; clear pp_
        (try simp only [World.size_alloc, World.size_setCell, size_drew] at rtp)
        refine ⟨_, rfl, ⟨pc.two.1, pc.two.2.1, pp.three.1, pp.three.2.1, pp.three.2.2.1⟩, fun hS => ?_⟩
        (try simp only [Act.put, List.setIfInBounds_toArray, List.set_cons_zero, List.set_cons_succ])
        refine on 5 ?_
        refine callH (by go_simp; (first | done | with_reducible rfl | exact ⟨rfl, rfl⟩)) ?_
        go_at_call 35
        refine (toIntS_L (RdL.cons (d := .ints yL0) yL0h.rd.b RdL.nil) yL0n).mono ?_
        rintro e w25 ⟨tyA0, tyn0, tyc0, rfl, rty, b25⟩
        clear hS
        have z25 := Below.size b25
        (try simp only [World.size_alloc, World.size_setCell, size_drew] at z25)
        have B25 : Below w.heap.size w w25 := Below.t b25
        have rw0_ := (rw0.below b25)
        clear rw0; have rw0 := rw0_; clear rw0_
        have rg0_ := (rg0.below b25)
        clear rg0; have rg0 := rg0_; clear rg0_
        have rtc_ := (rtc.below b25)
        clear rtc; have rtc := rtc_; clear rtc_
        have rtp_ := (rtp.below b25)
        clear rtp; have rtp := rtp_; clear rtp_
        have pc_ : Box w25 (w.heap.size) #[(.slice cA0 cn0 cc0), (.slice cA1 cn1 cc1)] 63 := (Box.b pc b25)
        clear pc; have pc := pc_; clear pc_
        have pp_ : Box w25 (w.heap.size + 1) #[(.slice pA0 pn0 pc0), (.slice pA1 pn1 pc1), (.slice pA2 pn2 pc2)] 81 := (Box.b pp b25)
        clear pp; have pp := pp_; clear pp_
        (try simp only [World.size_alloc, World.size_setCell, size_drew] at rty)
        refine ⟨_, rfl, ⟨pc.two.1, pc.two.2.1, pp.three.1, pp.three.2.1, pp.three.2.2.1⟩, fun hS => ?_⟩
        (try simp only [Act.put, List.setIfInBounds_toArray, List.set_cons_zero, List.set_cons_succ])
        refine on 6 ?_
        refine callH (by go_simp; (first | done | with_reducible rfl | exact ⟨rfl, rfl⟩)) ?_
        go_at_call 26
        refine (iEvalGarbled_L rtc.rd cL0n cL1n rtp.rd pL0n pL1n pL2n rty.rd yL0n).mono ?_
        rintro e w26 ⟨h0A0, h0n0, h0c0, rfl, rh0, b26⟩
        clear hS
        have z26 := Below.size b26
        (try simp only [World.size_alloc, World.size_setCell, size_drew] at z26)
        have B26 : Below w.heap.size w w26 := Below.t b26
        have rw0_ := (rw0.below b26)
        clear rw0; have rw0 := rw0_; clear rw0_
        have rg0_ := (rg0.below b26)
        clear rg0; have rg0 := rg0_; clear rg0_
        have rtc_ := (rtc.below b26)
        clear rtc; have rtc := rtc_; clear rtc_
        have rtp_ := (rtp.below b26)
        clear rtp; have rtp := rtp_; clear rtp_
        have rty_ := (rty.below b26)
        clear rty; have rty := rty_; clear rty_
        have pc_ : Box w26 (w.heap.size) #[(.slice cA0 cn0 cc0), (.slice cA1 cn1 cc1)] 63 := (Box.b pc b26)
        clear pc; have pc := pc_; clear pc_
        have pp_ : Box w26 (w.heap.size + 1) #[(.slice pA0 pn0 pc0), (.slice pA1 pn1 pc1), (.slice pA2 pn2 pc2)] 81 := (Box.b pp b26)
        clear pp; have pp := pp_; clear pp_
        (try simp only [World.size_alloc, World.size_setCell, size_drew] at rh0)
        refine ⟨_, rfl, ⟨pc.two.1, pc.two.2.1, pp.three.1, pp.three.2.1, pp.three.2.2.1⟩, fun hS => ?_⟩
        (try simp only [Act.put, List.setIfInBounds_toArray, List.set_cons_zero, List.set_cons_succ])
        (refine tk 7 hS ?_; (try simp only [Act.put, List.setIfInBounds_toArray, List.set_cons_zero, List.set_cons_succ]))
        (refine tk 8 hS ?_; (try simp only [Act.put, List.setIfInBounds_toArray, List.set_cons_zero, List.set_cons_succ]))
        (refine tk 9 hS ?_; (try simp only [Act.put, List.setIfInBounds_toArray, List.set_cons_zero, List.set_cons_succ]))
        (refine tk 10 hS ?_; (try simp only [Act.put, List.setIfInBounds_toArray, List.set_cons_zero, List.set_cons_succ]))
        (refine tk 11 hS ?_; (try simp only [Act.put, List.setIfInBounds_toArray, List.set_cons_zero, List.set_cons_succ]))
        clear hS
        refine wpAnyH_done (by kernel_rfl) ?_ _
        go_wp2_with fail
        refine (eqIntS_L rh0.rd rw0.rd rL0_0n).mono ?_
        rintro e w27 ⟨rfl, b27⟩
        have z27 := b27.size
        try simp only [World.size_alloc, World.size_setCell, size_drew] at z27
        have B27 : Below w.heap.size w w27 := Below.t b27
        have rw0_ := rw0.below b27
        clear rw0; have rw0 := rw0_; clear rw0_
        have rg0_ := rg0.below b27
        clear rg0; have rg0 := rg0_; clear rg0_
        have rh0_ := rh0.below b27
        clear rh0; have rh0 := rh0_; clear rh0_
        have pc_ : Box w27 (w.heap.size) #[(.slice cA0 cn0 cc0), (.slice cA1 cn1 cc1)] 63 := pc.below b27 (by first | omega | (simp [size_drew]; done) | (simp [size_drew]; omega))
        clear pc; have pc := pc_; clear pc_
        have pp_ : Box w27 (w.heap.size + 1) #[(.slice pA0 pn0 pc0), (.slice pA1 pn1 pc1), (.slice pA2 pn2 pc2)] 81 := pp.below b27 (by first | omega | (simp [size_drew]; done) | (simp [size_drew]; omega))
        clear pp; have pp := pp_; clear pp_
        go_wp2_with fail
        refine (heldIntS_L (evL cL0 cL1 pL0 pL1 pL2 yL0).length (1) _ rg0.rd (by first | omega | (simp [size_drew]; done) | (simp [size_drew]; omega)) (by omega) rL0_0n).mono ?_
        rintro e w_ ⟨rfl, rfl⟩
        go_wp2_with fail
        go_ret
        exact ⟨rfl, B27⟩
      · skip
        go_enter Try.func18, Try.ntmps18
        go_wp2_with fail
        refine (szCircuit_yes cL0h.b cL1h.b (1048576) _ (by first | rfl | simp) (by omega) (by omega)).mono ?_
        rintro e w1 ⟨rfl, b1⟩
        have z1 := b1.size
        try simp only [World.size_alloc, World.size_setCell, size_drew] at z1
        have B1 : Below w.heap.size w w1 := Below.t b1
        have pc_ : Box w1 (w.heap.size) #[(.slice cA0 cn0 cc0), (.slice cA1 cn1 cc1)] 63 := ((Box.new (g := w.heap.size) _ #[(.slice cA0 cn0 cc0), (.slice cA1 cn1 cc1)] 63 (by simp)).alloc _).below b1 (by first | omega | (simp [size_drew]; done) | (simp [size_drew]; omega))
        have pc := pc_; clear pc_
        have pp_ : Box w1 (w.heap.size + 1) #[(.slice pA0 pn0 pc0), (.slice pA1 pn1 pc1), (.slice pA2 pn2 pc2)] 81 := (Box.new (g := w.heap.size + 1) _ #[(.slice pA0 pn0 pc0), (.slice pA1 pn1 pc1), (.slice pA2 pn2 pc2)] 81 (by simp)).below b1 (by first | omega | (simp [size_drew]; done) | (simp [size_drew]; omega))
        have pp := pp_; clear pp_
        obtain ⟨cpp_0, cpp_1, cpp_2, fpp_0, fpp_1, fpp_2⟩ := pp.three
        have l_pp_0 : w.heap.size + 1 < w1.heap.size := by omega
        go_wp2_with fail
        refine (szPublic_no pL0h.b pL1h.b pL2h.b (1048576 - (cL0.length + cL1.length)) _ (by first | rfl | simp) (by omega) (by omega)).mono ?_
        rintro e w2 ⟨rfl, b2⟩
        clear cpp_0 cpp_1 cpp_2 fpp_0 fpp_1 fpp_2 l_pp_0
        have z2 := b2.size
        try simp only [World.size_alloc, World.size_setCell, size_drew] at z2
        have B2 : Below w.heap.size w w2 := Below.t b2
        have pc_ : Box w2 (w.heap.size) #[(.slice cA0 cn0 cc0), (.slice cA1 cn1 cc1)] 63 := pc.below b2 (by first | omega | (simp [size_drew]; done) | (simp [size_drew]; omega))
        clear pc; have pc := pc_; clear pc_
        have pp_ : Box w2 (w.heap.size + 1) #[(.slice pA0 pn0 pc0), (.slice pA1 pn1 pc1), (.slice pA2 pn2 pc2)] 81 := pp.below b2 (by first | omega | (simp [size_drew]; done) | (simp [size_drew]; omega))
        clear pp; have pp := pp_; clear pp_
        go_wp2
        go_ret
        exact ⟨rfl, B2⟩
    · skip
      go_enter Try.func18, Try.ntmps18
      go_wp2_with fail
      refine (szCircuit_no cL0h.b cL1h.b (1048576) _ (by first | rfl | simp) (by omega) (by omega)).mono ?_
      rintro e w1 ⟨rfl, b1⟩
      have z1 := b1.size
      try simp only [World.size_alloc, World.size_setCell, size_drew] at z1
      have B1 : Below w.heap.size w w1 := Below.t b1
      have pc_ : Box w1 (w.heap.size) #[(.slice cA0 cn0 cc0), (.slice cA1 cn1 cc1)] 63 := ((Box.new (g := w.heap.size) _ #[(.slice cA0 cn0 cc0), (.slice cA1 cn1 cc1)] 63 (by simp)).alloc _).below b1 (by first | omega | (simp [size_drew]; done) | (simp [size_drew]; omega))
      have pc := pc_; clear pc_
      have pp_ : Box w1 (w.heap.size + 1) #[(.slice pA0 pn0 pc0), (.slice pA1 pn1 pc1), (.slice pA2 pn2 pc2)] 81 := (Box.new (g := w.heap.size + 1) _ #[(.slice pA0 pn0 pc0), (.slice pA1 pn1 pc1), (.slice pA2 pn2 pc2)] 81 (by simp)).below b1 (by first | omega | (simp [size_drew]; done) | (simp [size_drew]; omega))
      have pp := pp_; clear pp_
      go_wp2
      go_ret
      exact ⟨rfl, B1⟩
end Go.Proofs.Ytodnahpegecpiaa

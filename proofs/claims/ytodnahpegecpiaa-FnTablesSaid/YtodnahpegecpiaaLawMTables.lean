/- Proved: for all arguments the law FnTables returns true, and the arguments read behind the call as before. No condition. -/
import Derived.Test.YtodnahpegecpiaaDrw
import Derived.Test.YtodnahpegecpiaaWir
import Derived.Test.YtodnahpegecpiaaGar
import Derived.Test.YtodnahpegecpiaaPuo
import Derived.Test.YtodnahpegecpiaaOpenS
import Derived.Test.YtodnahpegecpiaaFacts
namespace Go.Proofs.Ytodnahpegecpiaa
set_option linter.unusedSimpArgs false
set_option linter.unusedVariables false
open Go.RowKit
set_option maxRecDepth 100000 in
set_option maxHeartbeats 10000000 in
theorem walk_FnTables (A : Option Addr) (n c : Nat) (w : World) (hx : Bts0 w A n) :
    Calls Try.prog 13 #[.slice A n c] w fun e w' => e = .returned (.bool true) ∧ Below w.heap.size w w' := by
  by_cases hn : (1048576 : Int) < n
  · go_enter Try.func13, Try.ntmps13
    go_wp2_with fail
    refine (big_any _ _ _ _).mono ?_
    rintro e w1 ⟨rfl, rfl⟩
    go_wp2
    go_ret
    exact ⟨rfl, Below.refl _ _⟩
  · have hB0 : Bts w A n := ⟨by omega, hx.2⟩
    go_enter Try.func13, Try.ntmps13
    go_wp2_with fail
    refine (big_any _ _ _ _).mono ?_
    rintro e w_ ⟨rfl, rfl⟩
    go_wp2_with fail
    refine (DrawGarbling_any n c A _ hB0).mono ?_
    rintro e w1 ⟨cA0, cn0, cc0, cA1, cn1, cc1, yA0, yn0, yc0, cL0, cL1, yL0, tI0, tI1, rfl, rd, hc, hg24, ho1, ho4, hbits, hdl, b1⟩
    have B1 := b1
    have z1 := b1.size
    have cL0n : cL0.length ≤ 1048576 := by omega
    have cL1n : cL1.length ≤ 1048576 := by omega
    have yl80 := Lib.hid (bits80 hbits).2
    have hyb := Lib.hid (bits80 hbits).1
    have yL0n : yL0.length ≤ 1048576 := by have := yl80.out; omega
    have hgar : Hid (garbOk cL0 cL1 tI0 tI1 = true) := by show _ = _; rw [garbOk, hc, hdl]; rfl
    have hrg : Hid (rgOk cL0 cL1 tI0 tI1 yL0 = true) := by show _ = _; rw [rgOk, hgar.out, hbits]; rfl
    have hec : Hid (ecOk cL0 cL1 yL0 = true) := by show _ = _; rw [ecOk, hc, hbits]; rfl
    have hgb := Lib.hid (gar_gb hgar.out)
    have hpb := Lib.hid (rg_pb hrg.out)
    have hZn : (garZ cL0 cL1 tI0 tI1).length ≤ 1048576 := Nat.le_trans (garZ_len _ _ _ _) cL0n
    have hTn : (garT cL0 cL1 tI0 tI1).length ≤ 1048576 := Nat.le_trans (garT_len _ _ _ _) (by omega)
    have hK := Lib.hid hc
    have hD := Lib.hid hdl
    have hB := Lib.hid hbits
    clear b1 hc hdl hbits
    obtain rfl : yn0 = 80 := by rw [ownLen (A := yA0) (n := yn0) (c := yc0) (l := yL0) rd (by simp)]; exact yl80.out
    obtain ⟨g2, g2o, rfl, g2h⟩ := ownSome (A := yA0) (n := 80) (c := yc0) (l := yL0) rd (by simp) (by rw [yl80.out]; omega)
    have hcn := Lib.hid (ownLenG (A := cA0) (n := cn0) (c := cc0) (l := cL0) rd (by simp))
    have hP0 : (puT cL0 cL1 (garD cL0 cL1 tI0 tI1) (garZ cL0 cL1 tI0 tI1) (garT cL0 cL1 tI0 tI1)).length ≤ 1048576 := Nat.le_trans (puT_len _ _ _ _ _) hTn
    have hP1 : (puC cL0 cL1 (garD cL0 cL1 tI0 tI1) (garZ cL0 cL1 tI0 tI1) (garT cL0 cL1 tI0 tI1)).length ≤ 1048576 := Nat.le_trans (puC_len _ _ _ _ _) cL0n
    have hP2 : (puD cL0 cL1 (garD cL0 cL1 tI0 tI1) (garZ cL0 cL1 tI0 tI1) (garT cL0 cL1 tI0 tI1)).length ≤ 1048576 := Nat.le_trans (puD_len _ _ _ _ _) cL1n
    have hLn : (inLab tI0 tI1 yL0).length ≤ 1048576 := Nat.le_trans (inLab_len _ _ _) yL0n
    have hA1 := Lib.hid (inLab_yes (inOk_of hD.out hB.out))
    go_wp2_with fail
    refine (iGarble_L (RdL.sub (ls2 := [(.slice cA0 cn0 cc0, .gates cL0), (.slice cA1 cn1 cc1, .ints cL1)]) (((rd.alloc _).alloc _)).rd (by simp)) cL0n cL1n tI0 tI1).mono ?_
    rintro e w2 ⟨pA1, pn1, pc1, pA2, pn2, pc2, rfl, rg, b2⟩
    have z2 := b2.size
    try simp only [World.size_alloc, World.size_setCell, size_drew] at z2
    have B2 : Below w.heap.size w w2 := Below.t b2
    have rd_ := ((rd.alloc _).alloc _).below b2
    clear rd; have rd := rd_; clear rd_
    have xc_ : Box w2 (w1.heap.size) #[.slice cA0 cn0 cc0, .slice cA1 cn1 cc1] 27 := ((Box.new (g := w1.heap.size) _ #[.slice cA0 cn0 cc0, .slice cA1 cn1 cc1] 27 (by simp)).alloc _).below b2 (by first | omega | (simp [size_drew]; done) | (simp [size_drew]; omega))
    have xc := xc_; clear xc_
    have xt_ : Box w2 (w1.heap.size + 1) #[.int .i64 tI0, .int .i64 tI1] 29 := (Box.new (g := w1.heap.size + 1) _ #[.int .i64 tI0, .int .i64 tI1] 29 (by simp)).below b2 (by first | omega | (simp [size_drew]; done) | (simp [size_drew]; omega))
    have xt := xt_; clear xt_
    try simp only [World.size_alloc, World.size_setCell, size_drew] at rg
    (try rw [hgar.out])
    obtain ⟨cxc_0, cxc_1, fxc_0, fxc_1⟩ := xc.two
    have l_xc_0 : w1.heap.size < w2.heap.size := by omega
    have l_xc_1 : w1.heap.size < w2.heap.size + 1 := by omega
    go_wp2_with fail
    refine (iPublicOf_L (RdL.sub (ls2 := [(.slice cA0 cn0 cc0, .gates cL0), (.slice cA1 cn1 cc1, .ints cL1)]) ((rd.alloc _)).rd (by simp)) cL0n cL1n (garD cL0 cL1 tI0 tI1) (rg.alloc _).rd hZn hTn).mono ?_
    rintro e w3 ⟨qA0, qn0, qc0, qA1, qn1, qc1, qA2, qn2, qc2, rfl, rp, b3⟩
    clear cxc_0 cxc_1 fxc_0 fxc_1 l_xc_0 l_xc_1
    have z3 := b3.size
    try simp only [World.size_alloc, World.size_setCell, size_drew] at z3
    have B3 : Below w.heap.size w w3 := Below.t b3
    have rd_ := (rd.alloc _).below b3
    clear rd; have rd := rd_; clear rd_
    have rg_ := (rg.alloc _).below b3
    clear rg; have rg := rg_; clear rg_
    have xc_ : Box w3 (w1.heap.size) #[.slice cA0 cn0 cc0, .slice cA1 cn1 cc1] 27 := (xc.alloc _).below b3 (by first | omega | (simp [size_drew]; done) | (simp [size_drew]; omega))
    clear xc; have xc := xc_; clear xc_
    have xt_ : Box w3 (w1.heap.size + 1) #[.int .i64 tI0, .int .i64 tI1] 29 := (xt.alloc _).below b3 (by first | omega | (simp [size_drew]; done) | (simp [size_drew]; omega))
    clear xt; have xt := xt_; clear xt_
    have xp_ : Box w3 (w2.heap.size) #[.int .i64 (garD cL0 cL1 tI0 tI1), .slice pA1 pn1 pc1, .slice pA2 pn2 pc2] 33 := (Box.new (g := w2.heap.size) _ #[.int .i64 (garD cL0 cL1 tI0 tI1), .slice pA1 pn1 pc1, .slice pA2 pn2 pc2] 33 (by simp)).below b3 (by first | omega | (simp [size_drew]; done) | (simp [size_drew]; omega))
    have xp := xp_; clear xp_
    try simp only [World.size_alloc, World.size_setCell, size_drew] at rp
    (try rw [hgb.out])
    obtain ⟨cxt_0, cxt_1, fxt_0, fxt_1⟩ := xt.two
    have l_xt_0 : w1.heap.size + 1 < w3.heap.size := by omega
    have l_xt_1 : w1.heap.size + 1 < w3.heap.size + 1 := by omega
    go_wp2_with fail
    refine (iInputLabels_L tI0 tI1 (RdL.sub (ls2 := [(.slice (some ⟨g2, g2o, none⟩) 80 yc0, .ints yL0)]) ((rd.alloc _)).rd (by simp)) yL0n).mono ?_
    rintro e w4 ⟨lA, ln, lc, rfl, rl, b4⟩
    clear cxt_0 cxt_1 fxt_0 fxt_1 l_xt_0 l_xt_1
    have z4 := b4.size
    try simp only [World.size_alloc, World.size_setCell, size_drew] at z4
    have B4 : Below w.heap.size w w4 := Below.t b4
    have rd_ := (rd.alloc _).below b4
    clear rd; have rd := rd_; clear rd_
    have rg_ := (rg.alloc _).below b4
    clear rg; have rg := rg_; clear rg_
    have rp_ := (rp.alloc _).below b4
    clear rp; have rp := rp_; clear rp_
    have xc_ : Box w4 (w1.heap.size) #[.slice cA0 cn0 cc0, .slice cA1 cn1 cc1] 27 := (xc.alloc _).below b4 (by first | omega | (simp [size_drew]; done) | (simp [size_drew]; omega))
    clear xc; have xc := xc_; clear xc_
    have xt_ : Box w4 (w1.heap.size + 1) #[.int .i64 tI0, .int .i64 tI1] 29 := (xt.alloc _).below b4 (by first | omega | (simp [size_drew]; done) | (simp [size_drew]; omega))
    clear xt; have xt := xt_; clear xt_
    have xp_ : Box w4 (w2.heap.size) #[.int .i64 (garD cL0 cL1 tI0 tI1), .slice pA1 pn1 pc1, .slice pA2 pn2 pc2] 33 := (xp.alloc _).below b4 (by first | omega | (simp [size_drew]; done) | (simp [size_drew]; omega))
    clear xp; have xp := xp_; clear xp_
    have xq_ : Box w4 (w3.heap.size) #[.slice qA0 qn0 qc0, .slice qA1 qn1 qc1, .slice qA2 qn2 qc2] 37 := (Box.new (g := w3.heap.size) _ #[.slice qA0 qn0 qc0, .slice qA1 qn1 qc1, .slice qA2 qn2 qc2] 37 (by simp)).below b4 (by first | omega | (simp [size_drew]; done) | (simp [size_drew]; omega))
    have xq := xq_; clear xq_
    try simp only [World.size_alloc, World.size_setCell, size_drew] at rl
    obtain rfl : pn1 = cn0 := by rw [ownLen (A := pA1) (n := pn1) (c := pc1) (l := garZ cL0 cL1 tI0 tI1) rg (by simp), garZ_yes hgar.out, gZs_len, hcn.out]
    obtain rfl : ln = 80 := by rw [rl.len, hA1.out, genL_len]; exact yl80.out
    obtain ⟨a1, a2, rfl⟩ := rl.some (by rw [hA1.out, genL_len, yl80.out]; omega)
    obtain ⟨cxc_0, cxc_1, fxc_0, fxc_1⟩ := xc.two
    have l_xc_0 : w1.heap.size < w4.heap.size := by omega
    obtain ⟨cxt_0, cxt_1, fxt_0, fxt_1⟩ := xt.two
    have l_xt_0 : w1.heap.size + 1 < w4.heap.size := by omega
    go_wp2_with fail
    clear cxc_0 cxc_1 fxc_0 fxc_1 l_xc_0 cxt_0 cxt_1 fxt_0 fxt_1 l_xt_0
    go_loopw [11] (fun i wr => ∃ (k : Nat) (l0 h0 l1 h1 l2 h2 l3 h3 : Nat), k ≤ 80 ∧ i = .int .i64 k ∧ Hid (OwnL wr l0 h0 [(.slice cA0 pn1 cc0, .gates cL0), (.slice cA1 cn1 cc1, .ints cL1), (.slice (some ⟨g2, g2o, none⟩) 80 yc0, .ints yL0)]) ∧ Hid (OwnL wr l1 h1 [(.slice pA1 pn1 pc1, .ints (garZ cL0 cL1 tI0 tI1)), (.slice pA2 pn2 pc2, .ints (garT cL0 cL1 tI0 tI1))]) ∧ Hid (OwnL wr l2 h2 [(.slice qA0 qn0 qc0, .ints (puT cL0 cL1 (garD cL0 cL1 tI0 tI1) (garZ cL0 cL1 tI0 tI1) (garT cL0 cL1 tI0 tI1))), (.slice qA1 qn1 qc1, .ints (puC cL0 cL1 (garD cL0 cL1 tI0 tI1) (garZ cL0 cL1 tI0 tI1) (garT cL0 cL1 tI0 tI1))), (.slice qA2 qn2 qc2, .ints (puD cL0 cL1 (garD cL0 cL1 tI0 tI1) (garZ cL0 cL1 tI0 tI1) (garT cL0 cL1 tI0 tI1)))]) ∧ Hid (OwnL wr l3 h3 [(.slice (some ⟨a1, a2, none⟩) 80 lc, .ints (inLab tI0 tI1 yL0))]) ∧ Hid (Box wr (w1.heap.size) #[.slice cA0 pn1 cc0, .slice cA1 cn1 cc1] 27) ∧ Hid (Box wr (w1.heap.size + 1) #[.int .i64 tI0, .int .i64 tI1] 29) ∧ Hid (Box wr (w2.heap.size) #[.int .i64 (garD cL0 cL1 tI0 tI1), .slice pA1 pn1 pc1, .slice pA2 pn2 pc2] 33) ∧ Hid (Box wr (w3.heap.size) #[.slice qA0 qn0 qc0, .slice qA1 qn1 qc1, .slice qA2 qn2 qc2] 37) ∧ Below w.heap.size w wr) (fun i wr => 80 - (intOf i).toNat)
    case atStart => exact ⟨0, _, _, _, _, _, _, _, _, by omega, rfl, rd, rg, rp, rl, xc, xt, xp, xq, B4⟩
    case round =>
      obtain ⟨k, l0, h0, l1, h1, l2, h2, l3, h3, hk, rfl, rd, rg, rp, rl, xc, xt, xp, xq, B9⟩ := hrel
      obtain ⟨w9, hw9⟩ : ∃ x, x = wr := ⟨wr, rfl⟩
      subst hw9
      have rd := rd.out
      have rg := rg.out
      have rp := rp.out
      have rl := rl.out
      have xc := xc.out
      have xt := xt.out
      have xp := xp.out
      have xq := xq.out
      have zb_xc := xc.lt
      have zb_xt := xt.lt
      have zb_xp := xp.lt
      have zb_xq := xq.lt
      have z9 := B9.size
      by_cases hlt : k < 80
      · obtain ⟨cxt_0, cxt_1, fxt_0, fxt_1⟩ := xt.two
        have l_xt_0 : w1.heap.size + 1 < w9.heap.size := by omega
        go_wp2_with fail
        refine (iInputZero_L tI0 tI1 (k : Int)).mono ?_
        rintro e w10 ⟨rfl, b10⟩
        clear cxt_0 cxt_1 fxt_0 fxt_1 l_xt_0
        have z10 := b10.size
        try simp only [World.size_alloc, World.size_setCell, size_drew] at z10
        have B10 : Below w.heap.size w w10 := Below.t b10
        have rd_ := rd.below b10
        clear rd; have rd := rd_; clear rd_
        have rg_ := rg.below b10
        clear rg; have rg := rg_; clear rg_
        have rp_ := rp.below b10
        clear rp; have rp := rp_; clear rp_
        have rl_ := rl.below b10
        clear rl; have rl := rl_; clear rl_
        have xc_ : Box w10 (w1.heap.size) #[.slice cA0 pn1 cc0, .slice cA1 cn1 cc1] 27 := xc.below b10 (by first | omega | (simp [size_drew]; done) | (simp [size_drew]; omega))
        clear xc; have xc := xc_; clear xc_
        have xt_ : Box w10 (w1.heap.size + 1) #[.int .i64 tI0, .int .i64 tI1] 29 := xt.below b10 (by first | omega | (simp [size_drew]; done) | (simp [size_drew]; omega))
        clear xt; have xt := xt_; clear xt_
        have xp_ : Box w10 (w2.heap.size) #[.int .i64 (garD cL0 cL1 tI0 tI1), .slice pA1 pn1 pc1, .slice pA2 pn2 pc2] 33 := xp.below b10 (by first | omega | (simp [size_drew]; done) | (simp [size_drew]; omega))
        clear xp; have xp := xp_; clear xp_
        have xq_ : Box w10 (w3.heap.size) #[.slice qA0 qn0 qc0, .slice qA1 qn1 qc1, .slice qA2 qn2 qc2] 37 := xq.below b10 (by first | omega | (simp [size_drew]; done) | (simp [size_drew]; omega))
        clear xq; have xq := xq_; clear xq_
        have hne : (nth (inLab tI0 tI1 yL0) k != labelFor (inputZero tI0 tI1 (k : Int)) (garD cL0 cL1 tI0 tI1) (nth yL0 k)) = false := by
          rw [hA1.out, genL_nth (by rw [yl80.out]; exact hlt), inF, garD_yes hgar.out]; simp
        obtain ⟨cxt_0, cxt_1, fxt_0, fxt_1⟩ := xt.two
        have l_xt_0 : w1.heap.size + 1 < w10.heap.size := by omega
        go_wp2_with fail
        clear cxt_0 cxt_1 fxt_0 fxt_1 l_xt_0
        obtain ⟨cxp_0, cxp_1, cxp_2, fxp_0, fxp_1, fxp_2⟩ := xp.three
        have l_xp_0 : w2.heap.size < w10.heap.size := by omega
        go_wp2_with fail
        clear cxp_0 cxp_1 cxp_2 fxp_0 fxp_1 fxp_2 l_xp_0
        refine wp_region_held_drew (S := fun W => W.cell? ⟨w2.heap.size, 0, none⟩ = some (.int .i64 (garD cL0 cL1 tI0 tI1)) ∧ W.cell? ⟨w2.heap.size, 1, none⟩ = some (.slice pA1 pn1 pc1) ∧ W.cell? ⟨w2.heap.size, 2, none⟩ = some (.slice pA2 pn2 pc2) ∧ W.cell? ⟨a1, a2 + k, none⟩ = some (.int .i64 (nth (inLab tI0 tI1 yL0) k)) ∧ W.cell? ⟨g2, g2o + k, none⟩ = some (.int .i64 (nth yL0 k))) (by kernel_rfl) ⟨xp.drew.three.1, xp.drew.three.2.1, xp.drew.three.2.2.1, (OwnL.cellAt (rl.drew) k (by rw [hA1.out, genL_len, yl80.out]; exact hlt)), (ownCell (g := g2) (o := g2o) (n := 80) (c := yc0) (l := yL0) (rd.drew) (by simp) k (by rw [yl80.out]; omega))⟩ (fun hS => ?_)
        (refine tk 0 hS ?_; (try simp only [Act.put, List.setIfInBounds_toArray, List.set_cons_zero, List.set_cons_succ]))
        (refine tk 1 hS ?_; (try simp only [Act.put, List.setIfInBounds_toArray, List.set_cons_zero, List.set_cons_succ]))
        (refine tk 2 hS ?_; (try simp only [Act.put, List.setIfInBounds_toArray, List.set_cons_zero, List.set_cons_succ]))
        (refine tk 3 hS ?_; (try simp only [Act.put, List.setIfInBounds_toArray, List.set_cons_zero, List.set_cons_succ]))
        (refine tk 4 hS ?_; (try simp only [Act.put, List.setIfInBounds_toArray, List.set_cons_zero, List.set_cons_succ]))
        (refine tk 5 hS ?_; (try simp only [Act.put, List.setIfInBounds_toArray, List.set_cons_zero, List.set_cons_succ]))
        (refine tk 6 hS ?_; (try simp only [Act.put, List.setIfInBounds_toArray, List.set_cons_zero, List.set_cons_succ]))
        (refine tk 7 hS ?_; (try simp only [Act.put, List.setIfInBounds_toArray, List.set_cons_zero, List.set_cons_succ]))
        (refine tk 8 hS ?_; (try simp only [Act.put, List.setIfInBounds_toArray, List.set_cons_zero, List.set_cons_succ]))
        (refine tk 9 hS ?_; (try simp only [Act.put, List.setIfInBounds_toArray, List.set_cons_zero, List.set_cons_succ]))
        (refine tk 10 hS ?_; (try simp only [Act.put, List.setIfInBounds_toArray, List.set_cons_zero, List.set_cons_succ]))
        refine on 11 ?_
        refine callH (by go_simp; (first | done | with_reducible rfl | exact ⟨rfl, rfl⟩)) ?_
        go_at_call 29
        refine (sLabelFor_any _ _ _ _).mono ?_
        rintro e w_ ⟨rfl, rfl⟩
        refine ⟨_, rfl, hS, fun hS => ?_⟩
        (try simp only [Act.put, List.setIfInBounds_toArray, List.set_cons_zero, List.set_cons_succ])
        (refine tk 12 hS ?_; (try simp only [Act.put, List.setIfInBounds_toArray, List.set_cons_zero, List.set_cons_succ]))
        clear hS
        refine wpAnyH_done (by kernel_rfl) ?_ _
        generalize hw11 : World.drew _ = w11
        have z11 : w10.heap.size ≤ w11.heap.size := by rw [← hw11]; simp [size_drew]
        have B11 : Below w.heap.size w w11 := by rw [← hw11]; repeat (with_reducible (first | assumption | exact Below.refl _ _ | refine Below.alloc ?_ (by first | omega | (simp; done) | (simp; omega)) _ | refine Below.setCell ?_ (by first | omega | (simp; done) | (simp; omega)) _ | refine Below.drew ?_ | refine below_drewN ?_ _))
        have hK : ∀ k, k < w10.heap.size → w11.heap[k]? = w10.heap[k]? := by
          intro k hk; rw [← hw11]
          repeat (first | rfl | refine (Below.heap_alloc _ _ _ (by first | omega | (simp; omega))).trans ?_)
        have rd_ := rd.keepBlock (w' := w11) (by omega) (fun k h1 h2 => hK k  (by have := rd.2.1; omega))
        clear rd; have rd := rd_; clear rd_
        have rg_ := rg.keepBlock (w' := w11) (by omega) (fun k h1 h2 => hK k  (by have := rg.2.1; omega))
        clear rg; have rg := rg_; clear rg_
        have rp_ := rp.keepBlock (w' := w11) (by omega) (fun k h1 h2 => hK k  (by have := rp.2.1; omega))
        clear rp; have rp := rp_; clear rp_
        have rl_ := rl.keepBlock (w' := w11) (by omega) (fun k h1 h2 => hK k  (by have := rl.2.1; omega))
        clear rl; have rl := rl_; clear rl_
        have xc_ : Box w11 (w1.heap.size) #[.slice cA0 pn1 cc0, .slice cA1 cn1 cc1] 27 := (by rw [← hw11]; exact xc)
        clear xc; have xc := xc_; clear xc_
        have xt_ : Box w11 (w1.heap.size + 1) #[.int .i64 tI0, .int .i64 tI1] 29 := (by rw [← hw11]; exact xt)
        clear xt; have xt := xt_; clear xt_
        have xp_ : Box w11 (w2.heap.size) #[.int .i64 (garD cL0 cL1 tI0 tI1), .slice pA1 pn1 pc1, .slice pA2 pn2 pc2] 33 := (by rw [← hw11]; exact xp)
        clear xp; have xp := xp_; clear xp_
        have xq_ : Box w11 (w3.heap.size) #[.slice qA0 qn0 qc0, .slice qA1 qn1 qc1, .slice qA2 qn2 qc2] 37 := (by rw [← hw11]; exact xq)
        clear xq; have xq := xq_; clear xq_
        clear hw11 hK
        go_wp2
        go_roundw
        case rel => exact ⟨k + 1, _, _, _, _, _, _, _, _, by omega, by go_num, rd, rg, rp, rl, xc, xt, xp, xq, B11⟩
        case measure => simp [intOf]; omega
      · have hkn : ¬ (k : Int) < 80 := by omega
        have hc4 : countG cL0 4 ≤ 1048576 := Nat.le_trans (cntG_le _ _ _) cL0n
        have hw1 : IntKind.i64.wrap (2 * ((countG cL0 4 : Nat) : Int)) = 2 * ((countG cL0 4 : Nat) : Int) := by (rw [IntKind.wrap_i64]; (first | omega | (unfold wrap64; omega)))
        have t2 := gb_ts hgb.out
        have t3 := pb_cst hpb.out
        have e1 : ((pn2 : Int) == 2 * ((countG cL0 4 : Nat) : Int)) = true := by rw [ownLen (A := pA2) (n := pn2) (c := pc2) (l := garT cL0 cL1 tI0 tI1) rg (by simp), t2.1]; simp
        have e2 : ((qn1 : Int) == ((countG cL0 2 : Nat) : Int)) = true := by rw [ownLen (A := qA1) (n := qn1) (c := qc1) (l := puC cL0 cL1 (garD cL0 cL1 tI0 tI1) (garZ cL0 cL1 tI0 tI1) (garT cL0 cL1 tI0 tI1)) rp (by simp), t3]; simp
        have ht1 : ((garD cL0 cL1 tI0 tI1).tmod 2 == 1) = true := by rw [garD_yes hgar.out]; have h1 := deltaOf_odd hD.out; have h2 := lab_iff.1 (deltaOf_lab tI0 tI1); rw [Int.tmod_eq_emod_of_nonneg h2.1, h1]; rfl
        clear t2 t3
        have hsm := Lib.hid (puT_yes hgb.out)
        obtain ⟨cxc_0, cxc_1, fxc_0, fxc_1⟩ := xc.two
        have l_xc_0 : w1.heap.size < w9.heap.size := by omega
        go_wp2_with fail
        clear cxc_0 cxc_1 fxc_0 fxc_1 l_xc_0
        obtain ⟨cxc_0, cxc_1, fxc_0, fxc_1⟩ := xc.two
        have l_xc_0 : w1.heap.size < w9.heap.size := by omega
        obtain ⟨cxp_0, cxp_1, cxp_2, fxp_0, fxp_1, fxp_2⟩ := xp.three
        have l_xp_0 : w2.heap.size < w9.heap.size := by omega
        obtain ⟨cxq_0, cxq_1, cxq_2, fxq_0, fxq_1, fxq_2⟩ := xq.three
        have l_xq_0 : w3.heap.size < w9.heap.size := by omega
        go_wp2_with fail
        clear cxc_0 cxc_1 fxc_0 fxc_1 l_xc_0 cxp_0 cxp_1 cxp_2 fxp_0 fxp_1 fxp_2 l_xp_0 cxq_0 cxq_1 cxq_2 fxq_0 fxq_1 fxq_2 l_xq_0
        refine wp_region_held_drew (S := fun W => W.cell? ⟨w1.heap.size, 0, none⟩ = some (.slice cA0 pn1 cc0) ∧ W.cell? ⟨w1.heap.size, 1, none⟩ = some (.slice cA1 cn1 cc1) ∧ W.cell? ⟨w2.heap.size, 0, none⟩ = some (.int .i64 (garD cL0 cL1 tI0 tI1)) ∧ W.cell? ⟨w2.heap.size, 1, none⟩ = some (.slice pA1 pn1 pc1) ∧ W.cell? ⟨w2.heap.size, 2, none⟩ = some (.slice pA2 pn2 pc2) ∧ W.cell? ⟨w3.heap.size, 0, none⟩ = some (.slice qA0 qn0 qc0) ∧ W.cell? ⟨w3.heap.size, 1, none⟩ = some (.slice qA1 qn1 qc1) ∧ W.cell? ⟨w3.heap.size, 2, none⟩ = some (.slice qA2 qn2 qc2)) (by kernel_rfl) ⟨xc.drew.two.1, xc.drew.two.2.1, xp.drew.three.1, xp.drew.three.2.1, xp.drew.three.2.2.1, xq.drew.three.1, xq.drew.three.2.1, xq.drew.three.2.2.1⟩ (fun hS => ?_)
        (refine tk 0 hS ?_; (try simp only [Act.put, List.setIfInBounds_toArray, List.set_cons_zero, List.set_cons_succ]))
        (refine tk 1 hS ?_; (try simp only [Act.put, List.setIfInBounds_toArray, List.set_cons_zero, List.set_cons_succ]))
        (refine tk 2 hS ?_; (try simp only [Act.put, List.setIfInBounds_toArray, List.set_cons_zero, List.set_cons_succ]))
        (refine tk 3 hS ?_; (try simp only [Act.put, List.setIfInBounds_toArray, List.set_cons_zero, List.set_cons_succ]))
        (refine tk 4 hS ?_; (try simp only [Act.put, List.setIfInBounds_toArray, List.set_cons_zero, List.set_cons_succ]))
        (refine tk 5 hS ?_; (try simp only [Act.put, List.setIfInBounds_toArray, List.set_cons_zero, List.set_cons_succ]))
        (refine tk 6 hS ?_; (try simp only [Act.put, List.setIfInBounds_toArray, List.set_cons_zero, List.set_cons_succ]))
        (refine tk 7 hS ?_; (try simp only [Act.put, List.setIfInBounds_toArray, List.set_cons_zero, List.set_cons_succ]))
        (refine tk 8 hS ?_; (try simp only [Act.put, List.setIfInBounds_toArray, List.set_cons_zero, List.set_cons_succ]))
        refine on 9 ?_
        refine callH (by go_simp; (first | done | with_reducible rfl | exact ⟨rfl, rfl⟩)) ?_
        go_at_call 67
        refine (sCountGates_L (RdL.sub (ls2 := [(.slice cA0 pn1 cc0, .gates cL0), (.slice cA1 cn1 cc1, .ints cL1)]) (rd.drew).rd (by simp)) cL0n cL1n 4).mono ?_
        rintro e w10 ⟨rfl, b10⟩
        clear hS
        have z10 := Below.size b10
        (try simp only [World.size_alloc, World.size_setCell, size_drew] at z10)
        have B10 : Below w.heap.size w w10 := Below.t b10
        have rd_ := (rd.drew.below b10)
        clear rd; have rd := rd_; clear rd_
        have rg_ := (rg.drew.below b10)
        clear rg; have rg := rg_; clear rg_
        have rp_ := (rp.drew.below b10)
        clear rp; have rp := rp_; clear rp_
        have rl_ := (rl.drew.below b10)
        clear rl; have rl := rl_; clear rl_
        have xc_ : Box w10 (w1.heap.size) #[.slice cA0 pn1 cc0, .slice cA1 cn1 cc1] 27 := (Box.b xc.drew b10)
        clear xc; have xc := xc_; clear xc_
        have xt_ : Box w10 (w1.heap.size + 1) #[.int .i64 tI0, .int .i64 tI1] 29 := (Box.b xt.drew b10)
        clear xt; have xt := xt_; clear xt_
        have xp_ : Box w10 (w2.heap.size) #[.int .i64 (garD cL0 cL1 tI0 tI1), .slice pA1 pn1 pc1, .slice pA2 pn2 pc2] 33 := (Box.b xp.drew b10)
        clear xp; have xp := xp_; clear xp_
        have xq_ : Box w10 (w3.heap.size) #[.slice qA0 qn0 qc0, .slice qA1 qn1 qc1, .slice qA2 qn2 qc2] 37 := (Box.b xq.drew b10)
        clear xq; have xq := xq_; clear xq_
        refine ⟨_, rfl, ⟨xc.two.1, xc.two.2.1, xp.three.1, xp.three.2.1, xp.three.2.2.1, xq.three.1, xq.three.2.1, xq.three.2.2.1⟩, fun hS => ?_⟩
        (try simp only [Act.put, List.setIfInBounds_toArray, List.set_cons_zero, List.set_cons_succ])
        (refine tk 10 hS ?_; (try simp only [Act.put, List.setIfInBounds_toArray, List.set_cons_zero, List.set_cons_succ]))
        (refine tk 11 hS ?_; (try simp only [Act.put, List.setIfInBounds_toArray, List.set_cons_zero, List.set_cons_succ]))
        (refine tk 12 hS ?_; (try simp only [Act.put, List.setIfInBounds_toArray, List.set_cons_zero, List.set_cons_succ]))
        (refine tk 13 hS ?_; (try simp only [Act.put, List.setIfInBounds_toArray, List.set_cons_zero, List.set_cons_succ]))
        (refine tk 14 hS ?_; (try simp only [Act.put, List.setIfInBounds_toArray, List.set_cons_zero, List.set_cons_succ]))
        (refine tk 15 hS ?_; (try simp only [Act.put, List.setIfInBounds_toArray, List.set_cons_zero, List.set_cons_succ]))
        (refine tk 16 hS ?_; (try simp only [Act.put, List.setIfInBounds_toArray, List.set_cons_zero, List.set_cons_succ]))
        (refine tk 17 hS ?_; (try simp only [Act.put, List.setIfInBounds_toArray, List.set_cons_zero, List.set_cons_succ]))
        (refine tk 18 hS ?_; (try simp only [Act.put, List.setIfInBounds_toArray, List.set_cons_zero, List.set_cons_succ]))
        (refine tk 19 hS ?_; (try simp only [Act.put, List.setIfInBounds_toArray, List.set_cons_zero, List.set_cons_succ]))
        (refine tk 20 hS ?_; (try simp only [Act.put, List.setIfInBounds_toArray, List.set_cons_zero, List.set_cons_succ]))
        (refine tk 21 hS ?_; (try simp only [Act.put, List.setIfInBounds_toArray, List.set_cons_zero, List.set_cons_succ]))
        (refine tk 22 hS ?_; (try simp only [Act.put, List.setIfInBounds_toArray, List.set_cons_zero, List.set_cons_succ]))
        (refine tk 23 hS ?_; (try simp only [Act.put, List.setIfInBounds_toArray, List.set_cons_zero, List.set_cons_succ]))
        (refine tk 24 hS ?_; (try simp only [Act.put, List.setIfInBounds_toArray, List.set_cons_zero, List.set_cons_succ]))
        (refine tk 25 hS ?_; (try simp only [Act.put, List.setIfInBounds_toArray, List.set_cons_zero, List.set_cons_succ]))
        (refine tk 26 hS ?_; (try simp only [Act.put, List.setIfInBounds_toArray, List.set_cons_zero, List.set_cons_succ]))
        (refine tk 27 hS ?_; (try simp only [Act.put, List.setIfInBounds_toArray, List.set_cons_zero, List.set_cons_succ]))
        (refine tk 28 hS ?_; (try simp only [Act.put, List.setIfInBounds_toArray, List.set_cons_zero, List.set_cons_succ]))
        (refine tk 29 hS ?_; (try simp only [Act.put, List.setIfInBounds_toArray, List.set_cons_zero, List.set_cons_succ]))
        (refine tk 30 hS ?_; (try simp only [Act.put, List.setIfInBounds_toArray, List.set_cons_zero, List.set_cons_succ]))
        (refine tk 31 hS ?_; (try simp only [Act.put, List.setIfInBounds_toArray, List.set_cons_zero, List.set_cons_succ]))
        refine on 32 ?_
        refine callH (by go_simp; (first | done | with_reducible rfl | exact ⟨rfl, rfl⟩)) ?_
        go_at_call 67
        refine (sCountGates_L (RdL.sub (ls2 := [(.slice cA0 pn1 cc0, .gates cL0), (.slice cA1 cn1 cc1, .ints cL1)]) (rd).rd (by simp)) cL0n cL1n 2).mono ?_
        rintro e w11 ⟨rfl, b11⟩
        clear hS
        have z11 := Below.size b11
        (try simp only [World.size_alloc, World.size_setCell, size_drew] at z11)
        have B11 : Below w.heap.size w w11 := Below.t b11
        have rd_ := (rd.below b11)
        clear rd; have rd := rd_; clear rd_
        have rg_ := (rg.below b11)
        clear rg; have rg := rg_; clear rg_
        have rp_ := (rp.below b11)
        clear rp; have rp := rp_; clear rp_
        have rl_ := (rl.below b11)
        clear rl; have rl := rl_; clear rl_
        have xc_ : Box w11 (w1.heap.size) #[.slice cA0 pn1 cc0, .slice cA1 cn1 cc1] 27 := (Box.b xc b11)
        clear xc; have xc := xc_; clear xc_
        have xt_ : Box w11 (w1.heap.size + 1) #[.int .i64 tI0, .int .i64 tI1] 29 := (Box.b xt b11)
        clear xt; have xt := xt_; clear xt_
        have xp_ : Box w11 (w2.heap.size) #[.int .i64 (garD cL0 cL1 tI0 tI1), .slice pA1 pn1 pc1, .slice pA2 pn2 pc2] 33 := (Box.b xp b11)
        clear xp; have xp := xp_; clear xp_
        have xq_ : Box w11 (w3.heap.size) #[.slice qA0 qn0 qc0, .slice qA1 qn1 qc1, .slice qA2 qn2 qc2] 37 := (Box.b xq b11)
        clear xq; have xq := xq_; clear xq_
        refine ⟨_, rfl, ⟨xc.two.1, xc.two.2.1, xp.three.1, xp.three.2.1, xp.three.2.2.1, xq.three.1, xq.three.2.1, xq.three.2.2.1⟩, fun hS => ?_⟩
        (try simp only [Act.put, List.setIfInBounds_toArray, List.set_cons_zero, List.set_cons_succ])
        (refine tk 33 hS ?_; (try simp only [Act.put, List.setIfInBounds_toArray, List.set_cons_zero, List.set_cons_succ]))
        (refine tk 34 hS ?_; (try simp only [Act.put, List.setIfInBounds_toArray, List.set_cons_zero, List.set_cons_succ]))
        (refine tk 35 hS ?_; (try simp only [Act.put, List.setIfInBounds_toArray, List.set_cons_zero, List.set_cons_succ]))
        (refine tk 36 hS ?_; (try simp only [Act.put, List.setIfInBounds_toArray, List.set_cons_zero, List.set_cons_succ]))
        (refine tk 37 hS ?_; (try simp only [Act.put, List.setIfInBounds_toArray, List.set_cons_zero, List.set_cons_succ]))
        (refine tk 38 hS ?_; (try simp only [Act.put, List.setIfInBounds_toArray, List.set_cons_zero, List.set_cons_succ]))
        (refine tk 39 hS ?_; (try simp only [Act.put, List.setIfInBounds_toArray, List.set_cons_zero, List.set_cons_succ]))
        refine on 40 ?_
        refine callH (by go_simp; (first | done | with_reducible rfl | exact ⟨rfl, rfl⟩)) ?_
        go_at_call 68
        refine (sameInts_L (RdL.sub (ls2 := [(.slice qA0 qn0 qc0, .ints (garT cL0 cL1 tI0 tI1))]) (by have := (rp).rd; rw [hsm.out] at this; exact this) (by simp)) (RdL.sub (ls2 := [(.slice pA2 pn2 pc2, .ints (garT cL0 cL1 tI0 tI1))]) (rg).rd (by simp)) hTn).mono ?_
        rintro e w12 ⟨rfl, b12⟩
        clear hS
        have z12 := Below.size b12
        (try simp only [World.size_alloc, World.size_setCell, size_drew] at z12)
        have B12 : Below w.heap.size w w12 := Below.t b12
        have rd_ := (rd.below b12)
        clear rd; have rd := rd_; clear rd_
        have rg_ := (rg.below b12)
        clear rg; have rg := rg_; clear rg_
        have rp_ := (rp.below b12)
        clear rp; have rp := rp_; clear rp_
        have rl_ := (rl.below b12)
        clear rl; have rl := rl_; clear rl_
        have xc_ : Box w12 (w1.heap.size) #[.slice cA0 pn1 cc0, .slice cA1 cn1 cc1] 27 := (Box.b xc b12)
        clear xc; have xc := xc_; clear xc_
        have xt_ : Box w12 (w1.heap.size + 1) #[.int .i64 tI0, .int .i64 tI1] 29 := (Box.b xt b12)
        clear xt; have xt := xt_; clear xt_
        have xp_ : Box w12 (w2.heap.size) #[.int .i64 (garD cL0 cL1 tI0 tI1), .slice pA1 pn1 pc1, .slice pA2 pn2 pc2] 33 := (Box.b xp b12)
        clear xp; have xp := xp_; clear xp_
        have xq_ : Box w12 (w3.heap.size) #[.slice qA0 qn0 qc0, .slice qA1 qn1 qc1, .slice qA2 qn2 qc2] 37 := (Box.b xq b12)
        clear xq; have xq := xq_; clear xq_
        refine ⟨_, rfl, ⟨xc.two.1, xc.two.2.1, xp.three.1, xp.three.2.1, xp.three.2.2.1, xq.three.1, xq.three.2.1, xq.three.2.2.1⟩, fun hS => ?_⟩
        (try simp only [Act.put, List.setIfInBounds_toArray, List.set_cons_zero, List.set_cons_succ])
        (refine tk 41 hS ?_; (try simp only [Act.put, List.setIfInBounds_toArray, List.set_cons_zero, List.set_cons_succ]))
        (refine tk 42 hS ?_; (try simp only [Act.put, List.setIfInBounds_toArray, List.set_cons_zero, List.set_cons_succ]))
        (refine tk 43 hS ?_; (try simp only [Act.put, List.setIfInBounds_toArray, List.set_cons_zero, List.set_cons_succ]))
        (refine tk 44 hS ?_; (try simp only [Act.put, List.setIfInBounds_toArray, List.set_cons_zero, List.set_cons_succ]))
        (refine tk 45 hS ?_; (try simp only [Act.put, List.setIfInBounds_toArray, List.set_cons_zero, List.set_cons_succ]))
        (refine tk 46 hS ?_; (try simp only [Act.put, List.setIfInBounds_toArray, List.set_cons_zero, List.set_cons_succ]))
        (refine tk 47 hS ?_; (try simp only [Act.put, List.setIfInBounds_toArray, List.set_cons_zero, List.set_cons_succ]))
        (refine tk 48 hS ?_; (try simp only [Act.put, List.setIfInBounds_toArray, List.set_cons_zero, List.set_cons_succ]))
        clear hS
        refine wpAnyH_done (by kernel_rfl) ?_ _
        go_wp2
        go_ret
        exact ⟨rfl, by repeat (with_reducible (first | assumption | exact Below.refl _ _ | refine Below.alloc ?_ (by first | omega | (simp; done) | (simp; omega)) _ | refine Below.setCell ?_ (by first | omega | (simp; done) | (simp; omega)) _ | refine Below.drew ?_ | refine below_drewN ?_ _))⟩
end Go.Proofs.Ytodnahpegecpiaa
namespace Go.Proofs.Ytodnahpegecpiaa
set_option linter.unusedSimpArgs false
set_option linter.unusedVariables false
open Go.ChangeShapes Go.WideShapes Go.ChangeAt Go.RowKit
set_option maxRecDepth 100000 in
theorem lifted_FnTables (os : Os) (started : os.Started) (H : Type) (enc : TypeId × Value → H) :
    ReturnsInHanded {} Try.checked os 13 .any (Rows.fnTablesSpec.pre6 enc Try.prog Try.f13 Rows.fnTablesRow.domain false) (Rows.fnTablesSpec.post enc Try.prog Try.f13 false true false false) := by
  refine returnsInHanded_of_change (C := Try.checked) ownKnob_none started (by kernel_rfl) Try.func13
    (ChangeSpec.witness6 (enc := enc) (C := Try.checked) false ⟨#[], #[.slice none 0 0], []⟩ 8 (by kernel_rfl) (by kernel_rfl) (by kernel_rfl) (by kernel_rfl)) ?_
  intro W base args ds gs before hval0 hW hcnd _
  have hval : ∀ (j : Nat) t v, Try.f13.params[j]? = some t → args[j]? = some v → Value.okWide Try.prog W .any base t v := hval0
  have hW2 := hW
  obtain ⟨p, q, hA0, hV, rfl, hfz, hnd⟩ := hW
  have hA : DataW.TrodAll enc Try.prog W 0 (fun _ => true) true Try.f13.params.toList args.toList ds p := hA0
  rw [Try.params13] at hA hval
  obtain ⟨v0, vs0, d0, ds0, p0, q0, hargs, rfl, rfl, h0, r0⟩ := trodAll_cons hA
  obtain ⟨rfl, rfl, rfl⟩ := trodAll_nil r0
  obtain rfl : args = #[v0] := by cases args; simp_all
  obtain ⟨rfl, rfl⟩ := trodVars_none hV
  have k0 := h0
  have lt0 : ∀ x ∈ p0, x.block < W.heap.size := by obtain ⟨m, hm⟩ := k0; exact DataW.trod_lt m _ _ _ hm
  obtain ⟨A0, n0, c0, rfl, hx0⟩ := open_Bytes (hval 0 22 v0 rfl rfl) h0
  clear hA0 hval0
  refine (walk_FnTables A0 n0 c0 W hx0).mono fun e W2 ⟨he, bel⟩ => ?_
  subst he
  exact ⟨_, rfl, _, _, _, [], _, [], hW2, trodAll_mk1 (shut_bool Try.underlying4 _), (trodAll_cons_mk (Below.trod laidOut_yes (by kernel_rfl) (of_decide_eq_true (by kernel_rfl)) k0 bel lt0) trodAll_mk0), rfl, bel.frame _, fun h => by cases h⟩
theorem facts_FnTables : joinedFacts Try.prog 13 Try.f13 Rows.fnTablesSpec Rows.fnTablesRow = true := by
  unfold joinedFacts
  rw [mayEnter_yes, liftsFinal_no, make_cut]
  kernel_rfl
theorem wrap_FnTables : Try.f13.isWrapper Try.prog Rows.fnTablesRow.wrapper Rows.fnTablesRow.mainSum := by
  unfold Func.isWrapper
  rw [if_neg (of_decide_eq_false (by kernel_rfl))]
  exact ⟨rfl, rfl⟩
theorem inst_FnTables : Try.f13.isInstance Try.prog Rows.fnTablesRow.origin Rows.fnTablesRow.targs := of_decide_eq_true (by kernel_rfl)
theorem named_FnTables : Try.prog.funcNamed Rows.fnTablesRow.func = some 13 := by kernel_rfl
theorem FnTables_holds : Rows.FnTablesSaid :=
  OpenClaim.holds_of_wide 13 Try.f13 rfl rfl rfl rfl rfl rfl rfl ⟨rfl, rfl, rfl, rfl, rfl⟩ rfl rfl rfl rfl rfl named_FnTables Try.func13 facts_FnTables
    inst_FnTables wrap_FnTables
    (fun os started H enc _ => lifted_FnTables os started H enc)
#print axioms FnTables_holds
end Go.Proofs.Ytodnahpegecpiaa

/- Proved: for all arguments the law FnEveryWire returns true, and the arguments read behind the call as before. No condition. -/
import Derived.Test.YtodnahpegecpiaaDrw
import Derived.Test.YtodnahpegecpiaaEww
import Derived.Test.YtodnahpegecpiaaOpenS
import Derived.Test.YtodnahpegecpiaaFacts
namespace Go.Proofs.Ytodnahpegecpiaa
set_option linter.unusedSimpArgs false
set_option linter.unusedVariables false
open Go.RowKit
set_option maxRecDepth 100000 in
set_option maxHeartbeats 10000000 in
theorem walk_FnEveryWire (A : Option Addr) (n c : Nat) (w : World) (hx : Bts0 w A n) :
    Calls Try.prog 3 #[.slice A n c] w fun e w' => e = .returned (.bool true) ∧ Below w.heap.size w w' := by
  by_cases hn : (1048576 : Int) < n
  · go_enter Try.func3, Try.ntmps3
    go_wp2_with fail
    refine (big_any _ _ _ _).mono ?_
    rintro e w1 ⟨rfl, rfl⟩
    go_wp2
    go_ret
    exact ⟨rfl, Below.refl _ _⟩
  · have hB0 : Bts w A n := ⟨by omega, hx.2⟩
    go_enter Try.func3, Try.ntmps3
    go_wp2_with fail
    refine (big_any _ _ _ _).mono ?_
    rintro e w_ ⟨rfl, rfl⟩
    go_wp2_with fail
    refine (DrawGarbling_any n c A _ hB0).mono ?_
    rintro e w1 ⟨cA0, cn0, cc0, cA1, cn1, cc1, yA0, yn0, yc0, cL0, cL1, yL0, tI0, tI1, rfl, rd, hc, hg24, ho1, ho4, hbits, hdl, b1⟩
    have B1 := b1
    have z1 := b1.size
    have cL0n : cL0.length ≤ 1048576 := by omega
    have cL1n : cL1.length ≤ 1048576 := by omega
    have yl80 := Lib.hid (bits80 hbits).2
    have hyb := Lib.hid (bits80 hbits).1
    have yL0n : yL0.length ≤ 1048576 := by have := yl80.out; omega
    have hgar : Hid (garbOk cL0 cL1 tI0 tI1 = true) := by show _ = _; rw [garbOk, hc, hdl]; rfl
    have hrg : Hid (rgOk cL0 cL1 tI0 tI1 yL0 = true) := by show _ = _; rw [rgOk, hgar.out, hbits]; rfl
    have hec : Hid (ecOk cL0 cL1 yL0 = true) := by show _ = _; rw [ecOk, hc, hbits]; rfl
    have hgb := Lib.hid (gar_gb hgar.out)
    have hpb := Lib.hid (rg_pb hrg.out)
    have hZn : (garZ cL0 cL1 tI0 tI1).length ≤ 1048576 := Nat.le_trans (garZ_len _ _ _ _) cL0n
    have hTn : (garT cL0 cL1 tI0 tI1).length ≤ 1048576 := Nat.le_trans (garT_len _ _ _ _) (by omega)
    have hK := Lib.hid hc
    have hD := Lib.hid hdl
    have hB := Lib.hid hbits
    clear b1 hc hdl hbits
    have hcn := Lib.hid (ownLenG (A := cA0) (n := cn0) (c := cc0) (l := cL0) rd (by simp))
    have hcn1 := Lib.hid (ownLen (A := cA1) (n := cn1) (c := cc1) (l := cL1) rd (by simp))
    have hP0 : (puT cL0 cL1 (garD cL0 cL1 tI0 tI1) (garZ cL0 cL1 tI0 tI1) (garT cL0 cL1 tI0 tI1)).length ≤ 1048576 := Nat.le_trans (puT_len _ _ _ _ _) hTn
    have hP1 : (puC cL0 cL1 (garD cL0 cL1 tI0 tI1) (garZ cL0 cL1 tI0 tI1) (garT cL0 cL1 tI0 tI1)).length ≤ 1048576 := Nat.le_trans (puC_len _ _ _ _ _) cL0n
    have hP2 : (puD cL0 cL1 (garD cL0 cL1 tI0 tI1) (garZ cL0 cL1 tI0 tI1) (garT cL0 cL1 tI0 tI1)).length ≤ 1048576 := Nat.le_trans (puD_len _ _ _ _ _) cL1n
    have hLn : (inLab tI0 tI1 yL0).length ≤ 1048576 := Nat.le_trans (inLab_len _ _ _) yL0n
    have hEn : (evL cL0 cL1 (puT cL0 cL1 (garD cL0 cL1 tI0 tI1) (garZ cL0 cL1 tI0 tI1) (garT cL0 cL1 tI0 tI1)) (puC cL0 cL1 (garD cL0 cL1 tI0 tI1) (garZ cL0 cL1 tI0 tI1) (garT cL0 cL1 tI0 tI1)) (puD cL0 cL1 (garD cL0 cL1 tI0 tI1) (garZ cL0 cL1 tI0 tI1) (garT cL0 cL1 tI0 tI1)) (inLab tI0 tI1 yL0)).length ≤ 1048576 := Nat.le_trans (evL_len _ _ _ _ _ _) cL0n
    have hev : Hid (evOk cL0 cL1 (puT cL0 cL1 (garD cL0 cL1 tI0 tI1) (garZ cL0 cL1 tI0 tI1) (garT cL0 cL1 tI0 tI1)) (puC cL0 cL1 (garD cL0 cL1 tI0 tI1) (garZ cL0 cL1 tI0 tI1) (garT cL0 cL1 tI0 tI1)) (puD cL0 cL1 (garD cL0 cL1 tI0 tI1) (garZ cL0 cL1 tI0 tI1) (garT cL0 cL1 tI0 tI1)) (inLab tI0 tI1 yL0) = true) := rg_ev hrg.out
    have hdk : Hid (decOk cL0 cL1 (puT cL0 cL1 (garD cL0 cL1 tI0 tI1) (garZ cL0 cL1 tI0 tI1) (garT cL0 cL1 tI0 tI1)) (puC cL0 cL1 (garD cL0 cL1 tI0 tI1) (garZ cL0 cL1 tI0 tI1) (garT cL0 cL1 tI0 tI1)) (puD cL0 cL1 (garD cL0 cL1 tI0 tI1) (garZ cL0 cL1 tI0 tI1) (garT cL0 cL1 tI0 tI1)) (evL cL0 cL1 (puT cL0 cL1 (garD cL0 cL1 tI0 tI1) (garZ cL0 cL1 tI0 tI1) (garT cL0 cL1 tI0 tI1)) (puC cL0 cL1 (garD cL0 cL1 tI0 tI1) (garZ cL0 cL1 tI0 tI1) (garT cL0 cL1 tI0 tI1)) (puD cL0 cL1 (garD cL0 cL1 tI0 tI1) (garZ cL0 cL1 tI0 tI1) (garT cL0 cL1 tI0 tI1)) (inLab tI0 tI1 yL0)) = true) := rg_dec hrg.out
    have hew : (ewL cL0 cL1 yL0).length ≤ 1048576 := Nat.le_trans (ewL_len _ _ _) cL0n
    go_wp2_with fail
    refine (iGarble_L (RdL.sub (ls2 := [(.slice cA0 cn0 cc0, .gates cL0), (.slice cA1 cn1 cc1, .ints cL1)]) (((rd.alloc _).alloc _)).rd (by simp)) cL0n cL1n tI0 tI1).mono ?_
    rintro e w2 ⟨pA1, pn1, pc1, pA2, pn2, pc2, rfl, rg, b2⟩
    have z2 := b2.size
    try simp only [World.size_alloc, World.size_setCell, size_drew] at z2
    have B2 : Below w.heap.size w w2 := Below.t b2
    have rd_ := ((rd.alloc _).alloc _).below b2
    clear rd; have rd := rd_; clear rd_
    have xc_ : Box w2 (w1.heap.size) #[.slice cA0 cn0 cc0, .slice cA1 cn1 cc1] 27 := ((Box.new (g := w1.heap.size) _ #[.slice cA0 cn0 cc0, .slice cA1 cn1 cc1] 27 (by simp)).alloc _).below b2 (by first | omega | (simp [size_drew]; done) | (simp [size_drew]; omega))
    have xc := xc_; clear xc_
    have xt_ : Box w2 (w1.heap.size + 1) #[.int .i64 tI0, .int .i64 tI1] 29 := (Box.new (g := w1.heap.size + 1) _ #[.int .i64 tI0, .int .i64 tI1] 29 (by simp)).below b2 (by first | omega | (simp [size_drew]; done) | (simp [size_drew]; omega))
    have xt := xt_; clear xt_
    try simp only [World.size_alloc, World.size_setCell, size_drew] at rg
    (try rw [hgar.out])
    obtain ⟨cxc_0, cxc_1, fxc_0, fxc_1⟩ := xc.two
    have l_xc_0 : w1.heap.size < w2.heap.size := by omega
    have l_xc_1 : w1.heap.size < w2.heap.size + 1 := by omega
    go_wp2_with fail
    refine (iPublicOf_L (RdL.sub (ls2 := [(.slice cA0 cn0 cc0, .gates cL0), (.slice cA1 cn1 cc1, .ints cL1)]) ((rd.alloc _)).rd (by simp)) cL0n cL1n (garD cL0 cL1 tI0 tI1) (rg.alloc _).rd hZn hTn).mono ?_
    rintro e w3 ⟨qA0, qn0, qc0, qA1, qn1, qc1, qA2, qn2, qc2, rfl, rp, b3⟩
    clear cxc_0 cxc_1 fxc_0 fxc_1 l_xc_0 l_xc_1
    have z3 := b3.size
    try simp only [World.size_alloc, World.size_setCell, size_drew] at z3
    have B3 : Below w.heap.size w w3 := Below.t b3
    have rd_ := (rd.alloc _).below b3
    clear rd; have rd := rd_; clear rd_
    have rg_ := (rg.alloc _).below b3
    clear rg; have rg := rg_; clear rg_
    have xc_ : Box w3 (w1.heap.size) #[.slice cA0 cn0 cc0, .slice cA1 cn1 cc1] 27 := (xc.alloc _).below b3 (by first | omega | (simp [size_drew]; done) | (simp [size_drew]; omega))
    clear xc; have xc := xc_; clear xc_
    have xt_ : Box w3 (w1.heap.size + 1) #[.int .i64 tI0, .int .i64 tI1] 29 := (xt.alloc _).below b3 (by first | omega | (simp [size_drew]; done) | (simp [size_drew]; omega))
    clear xt; have xt := xt_; clear xt_
    have xp_ : Box w3 (w2.heap.size) #[.int .i64 (garD cL0 cL1 tI0 tI1), .slice pA1 pn1 pc1, .slice pA2 pn2 pc2] 33 := (Box.new (g := w2.heap.size) _ #[.int .i64 (garD cL0 cL1 tI0 tI1), .slice pA1 pn1 pc1, .slice pA2 pn2 pc2] 33 (by simp)).below b3 (by first | omega | (simp [size_drew]; done) | (simp [size_drew]; omega))
    have xp := xp_; clear xp_
    try simp only [World.size_alloc, World.size_setCell, size_drew] at rp
    (try rw [hgb.out])
    obtain ⟨cxc_0, cxc_1, fxc_0, fxc_1⟩ := xc.two
    have l_xc_0 : w1.heap.size < w3.heap.size := by omega
    have l_xc_1 : w1.heap.size < w3.heap.size + 1 := by omega
    go_wp2_with fail
    clear cxc_0 cxc_1 fxc_0 fxc_1 l_xc_0 l_xc_1
    obtain ⟨cxc_0, cxc_1, fxc_0, fxc_1⟩ := xc.two
    have l_xc_0 : w1.heap.size < w3.heap.size := by omega
    have l_xc_1 : w1.heap.size < w3.heap.size + 1 := by omega
    obtain ⟨cxt_0, cxt_1, fxt_0, fxt_1⟩ := xt.two
    have l_xt_0 : w1.heap.size + 1 < w3.heap.size := by omega
    have l_xt_1 : w1.heap.size + 1 < w3.heap.size + 1 := by omega
    go_wp2_with fail
    clear cxc_0 cxc_1 fxc_0 fxc_1 l_xc_0 l_xc_1 cxt_0 cxt_1 fxt_0 fxt_1 l_xt_0 l_xt_1
    generalize hw4 : World.alloc _ _ = w4
    have z4 : w3.heap.size + 1 ≤ w4.heap.size := by rw [← hw4]; simp
    have B4 : Below w.heap.size w w4 := by rw [← hw4]; repeat (with_reducible (first | assumption | exact Below.refl _ _ | refine Below.alloc ?_ (by first | omega | (simp; done) | (simp; omega)) _ | refine Below.setCell ?_ (by first | omega | (simp; done) | (simp; omega)) _ | refine Below.drew ?_ | refine below_drewN ?_ _))
    have hK : ∀ k, k < w3.heap.size → w4.heap[k]? = w3.heap[k]? := by
      intro k hk; rw [← hw4]
      repeat (first | rfl | refine (Below.heap_alloc _ _ _ (by first | omega | (simp; omega))).trans ?_)
    have rd_ := rd.keepBlock (w' := w4) (by omega) (fun k h1 h2 => hK k  (by have := rd.2.1; omega))
    clear rd; have rd := rd_; clear rd_
    have rg_ := rg.keepBlock (w' := w4) (by omega) (fun k h1 h2 => hK k  (by have := rg.2.1; omega))
    clear rg; have rg := rg_; clear rg_
    have rp_ := rp.keepBlock (w' := w4) (by omega) (fun k h1 h2 => hK k  (by have := rp.2.1; omega))
    clear rp; have rp := rp_; clear rp_
    have xc_ : Box w4 (w1.heap.size) #[.slice cA0 cn0 cc0, .slice cA1 cn1 cc1] 27 := (by rw [← hw4]; exact (xc.alloc _))
    clear xc; have xc := xc_; clear xc_
    have xt_ : Box w4 (w1.heap.size + 1) #[.int .i64 tI0, .int .i64 tI1] 29 := (by rw [← hw4]; exact (xt.alloc _))
    clear xt; have xt := xt_; clear xt_
    have xp_ : Box w4 (w2.heap.size) #[.int .i64 (garD cL0 cL1 tI0 tI1), .slice pA1 pn1 pc1, .slice pA2 pn2 pc2] 33 := (by rw [← hw4]; exact (xp.alloc _))
    clear xp; have xp := xp_; clear xp_
    have xq_ : Box w4 (w3.heap.size) #[.slice qA0 qn0 qc0, .slice qA1 qn1 qc1, .slice qA2 qn2 qc2] 37 := (by rw [← hw4]; exact (Box.new (g := w3.heap.size) _ #[.slice qA0 qn0 qc0, .slice qA1 qn1 qc1, .slice qA2 qn2 qc2] 37 (by simp)))
    have xq := xq_; clear xq_
    clear hw4 hK
    refine wp_region_held_drew (S := fun W => W.cell? ⟨w1.heap.size, 0, none⟩ = some (.slice cA0 cn0 cc0) ∧ W.cell? ⟨w1.heap.size, 1, none⟩ = some (.slice cA1 cn1 cc1) ∧ W.cell? ⟨w3.heap.size, 0, none⟩ = some (.slice qA0 qn0 qc0) ∧ W.cell? ⟨w3.heap.size, 1, none⟩ = some (.slice qA1 qn1 qc1) ∧ W.cell? ⟨w3.heap.size, 2, none⟩ = some (.slice qA2 qn2 qc2) ∧ W.cell? ⟨w1.heap.size + 1, 0, none⟩ = some (.int .i64 tI0) ∧ W.cell? ⟨w1.heap.size + 1, 1, none⟩ = some (.int .i64 tI1)) (by kernel_rfl) ⟨xc.drew.two.1, xc.drew.two.2.1, xq.drew.three.1, xq.drew.three.2.1, xq.drew.three.2.2.1, xt.drew.two.1, xt.drew.two.2.1⟩ (fun hS => ?_)
    (refine tk 0 hS ?_; (try simp only [Act.put, List.setIfInBounds_toArray, List.set_cons_zero, List.set_cons_succ]))
    (refine tk 1 hS ?_; (try simp only [Act.put, List.setIfInBounds_toArray, List.set_cons_zero, List.set_cons_succ]))
    (refine tk 2 hS ?_; (try simp only [Act.put, List.setIfInBounds_toArray, List.set_cons_zero, List.set_cons_succ]))
    (refine tk 3 hS ?_; (try simp only [Act.put, List.setIfInBounds_toArray, List.set_cons_zero, List.set_cons_succ]))
    refine on 4 ?_
    refine callH (by go_simp; (first | done | with_reducible rfl | exact ⟨rfl, rfl⟩)) ?_
    go_at_call 27
    refine (iInputLabels_L tI0 tI1 (RdL.sub (ls2 := [(.slice yA0 yn0 yc0, .ints yL0)]) (rd.drew).rd (by simp)) yL0n).mono ?_
    rintro e w5 ⟨lA, ln, lc, rfl, rl, b5⟩
    clear hS
    have z5 := Below.size b5
    (try simp only [World.size_alloc, World.size_setCell, size_drew] at z5)
    have B5 : Below w.heap.size w w5 := Below.t b5
    have rd_ := (rd.drew.below b5)
    clear rd; have rd := rd_; clear rd_
    have rg_ := (rg.drew.below b5)
    clear rg; have rg := rg_; clear rg_
    have rp_ := (rp.drew.below b5)
    clear rp; have rp := rp_; clear rp_
    have xc_ : Box w5 (w1.heap.size) #[.slice cA0 cn0 cc0, .slice cA1 cn1 cc1] 27 := (Box.b xc.drew b5)
    clear xc; have xc := xc_; clear xc_
    have xt_ : Box w5 (w1.heap.size + 1) #[.int .i64 tI0, .int .i64 tI1] 29 := (Box.b xt.drew b5)
    clear xt; have xt := xt_; clear xt_
    have xp_ : Box w5 (w2.heap.size) #[.int .i64 (garD cL0 cL1 tI0 tI1), .slice pA1 pn1 pc1, .slice pA2 pn2 pc2] 33 := (Box.b xp.drew b5)
    clear xp; have xp := xp_; clear xp_
    have xq_ : Box w5 (w3.heap.size) #[.slice qA0 qn0 qc0, .slice qA1 qn1 qc1, .slice qA2 qn2 qc2] 37 := (Box.b xq.drew b5)
    clear xq; have xq := xq_; clear xq_
    (try simp only [World.size_alloc, World.size_setCell, size_drew] at rl)
    refine ⟨_, rfl, ⟨xc.two.1, xc.two.2.1, xq.three.1, xq.three.2.1, xq.three.2.2.1, xt.two.1, xt.two.2.1⟩, fun hS => ?_⟩
    (try simp only [Act.put, List.setIfInBounds_toArray, List.set_cons_zero, List.set_cons_succ])
    refine on 5 ?_
    refine callH (by go_simp; (first | done | with_reducible rfl | exact ⟨rfl, rfl⟩)) ?_
    go_at_call 26
    refine (iEvalGarbled_L (RdL.sub (ls2 := [(.slice cA0 cn0 cc0, .gates cL0), (.slice cA1 cn1 cc1, .ints cL1)]) (rd).rd (by simp)) cL0n cL1n rp.rd hP0 hP1 hP2 rl.rd hLn).mono ?_
    rintro e w6 ⟨vA, vn, vc, rfl, rv, b6⟩
    clear hS
    have z6 := Below.size b6
    (try simp only [World.size_alloc, World.size_setCell, size_drew] at z6)
    have B6 : Below w.heap.size w w6 := Below.t b6
    have rd_ := (rd.below b6)
    clear rd; have rd := rd_; clear rd_
    have rg_ := (rg.below b6)
    clear rg; have rg := rg_; clear rg_
    have rp_ := (rp.below b6)
    clear rp; have rp := rp_; clear rp_
    have rl_ := (rl.below b6)
    clear rl; have rl := rl_; clear rl_
    have xc_ : Box w6 (w1.heap.size) #[.slice cA0 cn0 cc0, .slice cA1 cn1 cc1] 27 := (Box.b xc b6)
    clear xc; have xc := xc_; clear xc_
    have xt_ : Box w6 (w1.heap.size + 1) #[.int .i64 tI0, .int .i64 tI1] 29 := (Box.b xt b6)
    clear xt; have xt := xt_; clear xt_
    have xp_ : Box w6 (w2.heap.size) #[.int .i64 (garD cL0 cL1 tI0 tI1), .slice pA1 pn1 pc1, .slice pA2 pn2 pc2] 33 := (Box.b xp b6)
    clear xp; have xp := xp_; clear xp_
    have xq_ : Box w6 (w3.heap.size) #[.slice qA0 qn0 qc0, .slice qA1 qn1 qc1, .slice qA2 qn2 qc2] 37 := (Box.b xq b6)
    clear xq; have xq := xq_; clear xq_
    (try simp only [World.size_alloc, World.size_setCell, size_drew] at rv)
    refine ⟨_, rfl, ⟨xc.two.1, xc.two.2.1, xq.three.1, xq.three.2.1, xq.three.2.2.1, xt.two.1, xt.two.2.1⟩, fun hS => ?_⟩
    (try simp only [Act.put, List.setIfInBounds_toArray, List.set_cons_zero, List.set_cons_succ])
    (refine tk 6 hS ?_; (try simp only [Act.put, List.setIfInBounds_toArray, List.set_cons_zero, List.set_cons_succ]))
    (refine tk 7 hS ?_; (try simp only [Act.put, List.setIfInBounds_toArray, List.set_cons_zero, List.set_cons_succ]))
    (refine tk 8 hS ?_; (try simp only [Act.put, List.setIfInBounds_toArray, List.set_cons_zero, List.set_cons_succ]))
    (refine tk 9 hS ?_; (try simp only [Act.put, List.setIfInBounds_toArray, List.set_cons_zero, List.set_cons_succ]))
    (refine tk 10 hS ?_; (try simp only [Act.put, List.setIfInBounds_toArray, List.set_cons_zero, List.set_cons_succ]))
    clear hS
    refine wpAnyH_done (by kernel_rfl) ?_ _
    (try rw [hev.out])
    obtain ⟨cxc_0, cxc_1, fxc_0, fxc_1⟩ := xc.two
    have l_xc_0 : w1.heap.size < w6.heap.size := by omega
    go_wp2_with fail
    refine (sEvalWires_L (RdL.sub (ls2 := [(.slice cA0 cn0 cc0, .gates cL0), (.slice cA1 cn1 cc1, .ints cL1)]) (rd).rd (by simp)) cL0n cL1n (RdL.sub (ls2 := [(.slice yA0 yn0 yc0, .ints yL0)]) (rd).rd (by simp)) yL0n).mono ?_
    rintro e w7 ⟨eA, en, ec, rfl, re, b7⟩
    clear cxc_0 cxc_1 fxc_0 fxc_1 l_xc_0
    have z7 := b7.size
    try simp only [World.size_alloc, World.size_setCell, size_drew] at z7
    have B7 : Below w.heap.size w w7 := Below.t b7
    have rd_ := rd.below b7
    clear rd; have rd := rd_; clear rd_
    have rg_ := rg.below b7
    clear rg; have rg := rg_; clear rg_
    have rp_ := rp.below b7
    clear rp; have rp := rp_; clear rp_
    have rl_ := rl.below b7
    clear rl; have rl := rl_; clear rl_
    have rv_ := rv.below b7
    clear rv; have rv := rv_; clear rv_
    have xc_ : Box w7 (w1.heap.size) #[.slice cA0 cn0 cc0, .slice cA1 cn1 cc1] 27 := xc.below b7 (by first | omega | (simp [size_drew]; done) | (simp [size_drew]; omega))
    clear xc; have xc := xc_; clear xc_
    have xt_ : Box w7 (w1.heap.size + 1) #[.int .i64 tI0, .int .i64 tI1] 29 := xt.below b7 (by first | omega | (simp [size_drew]; done) | (simp [size_drew]; omega))
    clear xt; have xt := xt_; clear xt_
    have xp_ : Box w7 (w2.heap.size) #[.int .i64 (garD cL0 cL1 tI0 tI1), .slice pA1 pn1 pc1, .slice pA2 pn2 pc2] 33 := xp.below b7 (by first | omega | (simp [size_drew]; done) | (simp [size_drew]; omega))
    clear xp; have xp := xp_; clear xp_
    have xq_ : Box w7 (w3.heap.size) #[.slice qA0 qn0 qc0, .slice qA1 qn1 qc1, .slice qA2 qn2 qc2] 37 := xq.below b7 (by first | omega | (simp [size_drew]; done) | (simp [size_drew]; omega))
    clear xq; have xq := xq_; clear xq_
    try simp only [World.size_alloc, World.size_setCell, size_drew] at re
    clear rl
    obtain rfl : pn1 = cn0 := by rw [ownLen (A := pA1) (n := pn1) (c := pc1) (l := garZ cL0 cL1 tI0 tI1) rg (by simp), garZ_yes hgar.out, gZs_len, hcn.out]
    obtain rfl : vn = pn1 := by rw [rv.len, evL_yes hev.out, eXs_len, hcn.out]
    obtain rfl : en = vn := by rw [re.len, ewL_yes hec.out, vXs_len, hcn.out]
    obtain ⟨cxc_0, cxc_1, fxc_0, fxc_1⟩ := xc.two
    have l_xc_0 : w1.heap.size < w7.heap.size := by omega
    obtain ⟨cxp_0, cxp_1, cxp_2, fxp_0, fxp_1, fxp_2⟩ := xp.three
    have l_xp_0 : w2.heap.size < w7.heap.size := by omega
    go_wp2_with fail
    clear cxc_0 cxc_1 fxc_0 fxc_1 l_xc_0 cxp_0 cxp_1 cxp_2 fxp_0 fxp_1 fxp_2 l_xp_0
    go_loopw [13] (fun i wr => ∃ (k : Nat) (l0 h0 l1 h1 l2 h2 l3 h3 l4 h4 : Nat), k ≤ en ∧ i = .int .i64 k ∧ Hid (OwnL wr l0 h0 [(.slice cA0 en cc0, .gates cL0), (.slice cA1 cn1 cc1, .ints cL1), (.slice yA0 yn0 yc0, .ints yL0)]) ∧ Hid (OwnL wr l1 h1 [(.slice pA1 en pc1, .ints (garZ cL0 cL1 tI0 tI1)), (.slice pA2 pn2 pc2, .ints (garT cL0 cL1 tI0 tI1))]) ∧ Hid (OwnL wr l2 h2 [(.slice qA0 qn0 qc0, .ints (puT cL0 cL1 (garD cL0 cL1 tI0 tI1) (garZ cL0 cL1 tI0 tI1) (garT cL0 cL1 tI0 tI1))), (.slice qA1 qn1 qc1, .ints (puC cL0 cL1 (garD cL0 cL1 tI0 tI1) (garZ cL0 cL1 tI0 tI1) (garT cL0 cL1 tI0 tI1))), (.slice qA2 qn2 qc2, .ints (puD cL0 cL1 (garD cL0 cL1 tI0 tI1) (garZ cL0 cL1 tI0 tI1) (garT cL0 cL1 tI0 tI1)))]) ∧ Hid (OwnL wr l3 h3 [(.slice vA en vc, .ints (evL cL0 cL1 (puT cL0 cL1 (garD cL0 cL1 tI0 tI1) (garZ cL0 cL1 tI0 tI1) (garT cL0 cL1 tI0 tI1)) (puC cL0 cL1 (garD cL0 cL1 tI0 tI1) (garZ cL0 cL1 tI0 tI1) (garT cL0 cL1 tI0 tI1)) (puD cL0 cL1 (garD cL0 cL1 tI0 tI1) (garZ cL0 cL1 tI0 tI1) (garT cL0 cL1 tI0 tI1)) (inLab tI0 tI1 yL0)))]) ∧ Hid (OwnL wr l4 h4 [(.slice eA en ec, .ints (ewL cL0 cL1 yL0))]) ∧ Hid (Box wr (w1.heap.size) #[.slice cA0 en cc0, .slice cA1 cn1 cc1] 27) ∧ Hid (Box wr (w2.heap.size) #[.int .i64 (garD cL0 cL1 tI0 tI1), .slice pA1 en pc1, .slice pA2 pn2 pc2] 33) ∧ Hid (Box wr (w3.heap.size) #[.slice qA0 qn0 qc0, .slice qA1 qn1 qc1, .slice qA2 qn2 qc2] 37) ∧ Below w.heap.size w wr) (fun i wr => en - (intOf i).toNat)
    case atStart => exact ⟨0, _, _, _, _, _, _, _, _, _, _, by omega, rfl, rd, rg, rp, rv, re, xc, xp, xq, B7⟩
    case round =>
      obtain ⟨k, l0, h0, l1, h1, l2, h2, l3, h3, l4, h4, hk, rfl, rd, rg, rp, rv, re, xc, xp, xq, B9⟩ := hrel
      obtain ⟨w9, hw9⟩ : ∃ x, x = wr := ⟨wr, rfl⟩
      subst hw9
      have rd := rd.out
      have rg := rg.out
      have rp := rp.out
      have rv := rv.out
      have re := re.out
      have xc := xc.out
      have xp := xp.out
      have xq := xq.out
      have zb_xc := xc.lt
      have zb_xp := xp.lt
      have zb_xq := xq.lt
      have z9 := B9.size
      by_cases hlt : k < en
      · have hkl : k < cL0.length := by rw [← hcn.out]; exact hlt
        have hlz : (garZ cL0 cL1 tI0 tI1).length = cL0.length := by rw [garZ_yes hgar.out, gZs_len]
        have hlv : (evL cL0 cL1 (puT cL0 cL1 (garD cL0 cL1 tI0 tI1) (garZ cL0 cL1 tI0 tI1) (garT cL0 cL1 tI0 tI1)) (puC cL0 cL1 (garD cL0 cL1 tI0 tI1) (garZ cL0 cL1 tI0 tI1) (garT cL0 cL1 tI0 tI1)) (puD cL0 cL1 (garD cL0 cL1 tI0 tI1) (garZ cL0 cL1 tI0 tI1) (garT cL0 cL1 tI0 tI1)) (inLab tI0 tI1 yL0)).length = cL0.length := by rw [evL_yes hev.out, eXs_len]
        have hle : (ewL cL0 cL1 yL0).length = cL0.length := by rw [ewL_yes hec.out, vXs_len]
        have hl1 := Lib.hid hlz
        have hl2 := Lib.hid hlv
        have hl3 := Lib.hid hle
        clear hlz hlv hle
        obtain ⟨z1, z2, rfl, z1l⟩ := ownSome (A := pA1) (n := en) (c := pc1) (l := garZ cL0 cL1 tI0 tI1) rg (by simp) (by rw [hl1.out]; omega)
        obtain ⟨v1, v2, rfl⟩ := rv.some (by rw [hl2.out]; omega)
        obtain ⟨e1, e2, rfl⟩ := re.some (by rw [hl3.out]; omega)
        have hne : (nth (evL cL0 cL1 (puT cL0 cL1 (garD cL0 cL1 tI0 tI1) (garZ cL0 cL1 tI0 tI1) (garT cL0 cL1 tI0 tI1)) (puC cL0 cL1 (garD cL0 cL1 tI0 tI1) (garZ cL0 cL1 tI0 tI1) (garT cL0 cL1 tI0 tI1)) (puD cL0 cL1 (garD cL0 cL1 tI0 tI1) (garZ cL0 cL1 tI0 tI1) (garT cL0 cL1 tI0 tI1)) (inLab tI0 tI1 yL0)) k != labelFor (nth (garZ cL0 cL1 tI0 tI1) k) (garD cL0 cL1 tI0 tI1) (nth (ewL cL0 cL1 yL0) k)) = false := by
          have hw := (wires_right hgar.out hB.out cL0.length (Nat.le_refl _) k hkl).1
          have h1 := rg_wires hrg.out; rw [rgW] at h1
          rw [h1, garZ_yes hgar.out, garD_yes hgar.out, ewL_yes hec.out, hw]; simp
        obtain ⟨cxp_0, cxp_1, cxp_2, fxp_0, fxp_1, fxp_2⟩ := xp.three
        have l_xp_0 : w2.heap.size < w9.heap.size := by omega
        go_wp2_with fail
        clear cxp_0 cxp_1 cxp_2 fxp_0 fxp_1 fxp_2 l_xp_0
        refine wp_region_held_drew (S := fun W => W.cell? ⟨w2.heap.size, 0, none⟩ = some (.int .i64 (garD cL0 cL1 tI0 tI1)) ∧ W.cell? ⟨w2.heap.size, 1, none⟩ = some (.slice (some ⟨z1, z2, none⟩) en pc1) ∧ W.cell? ⟨w2.heap.size, 2, none⟩ = some (.slice pA2 pn2 pc2) ∧ W.cell? ⟨v1, v2 + k, none⟩ = some (.int .i64 (nth (evL cL0 cL1 (puT cL0 cL1 (garD cL0 cL1 tI0 tI1) (garZ cL0 cL1 tI0 tI1) (garT cL0 cL1 tI0 tI1)) (puC cL0 cL1 (garD cL0 cL1 tI0 tI1) (garZ cL0 cL1 tI0 tI1) (garT cL0 cL1 tI0 tI1)) (puD cL0 cL1 (garD cL0 cL1 tI0 tI1) (garZ cL0 cL1 tI0 tI1) (garT cL0 cL1 tI0 tI1)) (inLab tI0 tI1 yL0)) k)) ∧ W.cell? ⟨z1, z2 + k, none⟩ = some (.int .i64 (nth (garZ cL0 cL1 tI0 tI1) k)) ∧ W.cell? ⟨e1, e2 + k, none⟩ = some (.int .i64 (nth (ewL cL0 cL1 yL0) k))) (by kernel_rfl) ⟨xp.drew.three.1, xp.drew.three.2.1, xp.drew.three.2.2.1, (OwnL.cellAt (rv.drew) k (by rw [hl2.out]; exact hkl)), (ownCell (l := garZ cL0 cL1 tI0 tI1) (rg.drew) (List.mem_cons_self) k (by rw [hl1.out]; exact hkl)), (OwnL.cellAt (re.drew) k (by rw [hl3.out]; exact hkl))⟩ (fun hS => ?_)
        (refine tk 0 hS ?_; (try simp only [Act.put, List.setIfInBounds_toArray, List.set_cons_zero, List.set_cons_succ]))
        (refine tk 1 hS ?_; (try simp only [Act.put, List.setIfInBounds_toArray, List.set_cons_zero, List.set_cons_succ]))
        (refine tk 2 hS ?_; (try simp only [Act.put, List.setIfInBounds_toArray, List.set_cons_zero, List.set_cons_succ]))
        (refine tk 3 hS ?_; (try simp only [Act.put, List.setIfInBounds_toArray, List.set_cons_zero, List.set_cons_succ]))
        (refine tk 4 hS ?_; (try simp only [Act.put, List.setIfInBounds_toArray, List.set_cons_zero, List.set_cons_succ]))
        (refine tk 5 hS ?_; (try simp only [Act.put, List.setIfInBounds_toArray, List.set_cons_zero, List.set_cons_succ]))
        (refine tk 6 hS ?_; (try simp only [Act.put, List.setIfInBounds_toArray, List.set_cons_zero, List.set_cons_succ]))
        (refine tk 7 hS ?_; (try simp only [Act.put, List.setIfInBounds_toArray, List.set_cons_zero, List.set_cons_succ]))
        (refine tk 8 hS ?_; (try simp only [Act.put, List.setIfInBounds_toArray, List.set_cons_zero, List.set_cons_succ]))
        (refine tk 9 hS ?_; (try simp only [Act.put, List.setIfInBounds_toArray, List.set_cons_zero, List.set_cons_succ]))
        (refine tk 10 hS ?_; (try simp only [Act.put, List.setIfInBounds_toArray, List.set_cons_zero, List.set_cons_succ]))
        (refine tk 11 hS ?_; (try simp only [Act.put, List.setIfInBounds_toArray, List.set_cons_zero, List.set_cons_succ]))
        (refine tk 12 hS ?_; (try simp only [Act.put, List.setIfInBounds_toArray, List.set_cons_zero, List.set_cons_succ]))
        (refine tk 13 hS ?_; (try simp only [Act.put, List.setIfInBounds_toArray, List.set_cons_zero, List.set_cons_succ]))
        (refine tk 14 hS ?_; (try simp only [Act.put, List.setIfInBounds_toArray, List.set_cons_zero, List.set_cons_succ]))
        refine on 15 ?_
        refine callH (by go_simp; (first | done | with_reducible rfl | exact ⟨rfl, rfl⟩)) ?_
        go_at_call 29
        refine (sLabelFor_any _ _ _ _).mono ?_
        rintro e w_ ⟨rfl, rfl⟩
        refine ⟨_, rfl, hS, fun hS => ?_⟩
        (try simp only [Act.put, List.setIfInBounds_toArray, List.set_cons_zero, List.set_cons_succ])
        (refine tk 16 hS ?_; (try simp only [Act.put, List.setIfInBounds_toArray, List.set_cons_zero, List.set_cons_succ]))
        clear hS
        refine wpAnyH_done (by kernel_rfl) ?_ _
        generalize hw10 : World.drew _ = w10
        have z10 : w9.heap.size ≤ w10.heap.size := by rw [← hw10]; simp [size_drew]
        have B10 : Below w.heap.size w w10 := by rw [← hw10]; repeat (with_reducible (first | assumption | exact Below.refl _ _ | refine Below.alloc ?_ (by first | omega | (simp; done) | (simp; omega)) _ | refine Below.setCell ?_ (by first | omega | (simp; done) | (simp; omega)) _ | refine Below.drew ?_ | refine below_drewN ?_ _))
        have hK : ∀ k, k < w9.heap.size → w10.heap[k]? = w9.heap[k]? := by
          intro k hk; rw [← hw10]
          repeat (first | rfl | refine (Below.heap_alloc _ _ _ (by first | omega | (simp; omega))).trans ?_)
        have rd_ := rd.keepBlock (w' := w10) (by omega) (fun k h1 h2 => hK k  (by have := rd.2.1; omega))
        clear rd; have rd := rd_; clear rd_
        have rg_ := rg.keepBlock (w' := w10) (by omega) (fun k h1 h2 => hK k  (by have := rg.2.1; omega))
        clear rg; have rg := rg_; clear rg_
        have rp_ := rp.keepBlock (w' := w10) (by omega) (fun k h1 h2 => hK k  (by have := rp.2.1; omega))
        clear rp; have rp := rp_; clear rp_
        have rv_ := rv.keepBlock (w' := w10) (by omega) (fun k h1 h2 => hK k  (by have := rv.2.1; omega))
        clear rv; have rv := rv_; clear rv_
        have re_ := re.keepBlock (w' := w10) (by omega) (fun k h1 h2 => hK k  (by have := re.2.1; omega))
        clear re; have re := re_; clear re_
        have xc_ : Box w10 (w1.heap.size) #[.slice cA0 en cc0, .slice cA1 cn1 cc1] 27 := (by rw [← hw10]; exact xc)
        clear xc; have xc := xc_; clear xc_
        have xp_ : Box w10 (w2.heap.size) #[.int .i64 (garD cL0 cL1 tI0 tI1), .slice (some ⟨z1, z2, none⟩) en pc1, .slice pA2 pn2 pc2] 33 := (by rw [← hw10]; exact xp)
        clear xp; have xp := xp_; clear xp_
        have xq_ : Box w10 (w3.heap.size) #[.slice qA0 qn0 qc0, .slice qA1 qn1 qc1, .slice qA2 qn2 qc2] 37 := (by rw [← hw10]; exact xq)
        clear xq; have xq := xq_; clear xq_
        clear hw10 hK
        go_wp2
        go_roundw
        case rel => exact ⟨k + 1, _, _, _, _, _, _, _, _, _, _, by omega, by go_num, rd, rg, rp, rv, re, xc, xp, xq, B10⟩
        case measure => simp [intOf]; omega
      · have hkn : ¬ (k : Int) < (en : Int) := by omega
        obtain ⟨cxc_0, cxc_1, fxc_0, fxc_1⟩ := xc.two
        have l_xc_0 : w1.heap.size < w9.heap.size := by omega
        obtain ⟨cxq_0, cxq_1, cxq_2, fxq_0, fxq_1, fxq_2⟩ := xq.three
        have l_xq_0 : w3.heap.size < w9.heap.size := by omega
        go_wp2_with fail
        refine (iDecodeOutputs_L (RdL.sub (ls2 := [(.slice cA0 en cc0, .gates cL0), (.slice cA1 cn1 cc1, .ints cL1)]) (rd).rd (by simp)) cL0n cL1n rp.rd hP0 hP1 hP2 rv.rd hEn).mono ?_
        rintro e w10 ⟨oA, o1, o2, rfl, ro, b10⟩
        clear cxc_0 cxc_1 fxc_0 fxc_1 l_xc_0 cxq_0 cxq_1 cxq_2 fxq_0 fxq_1 fxq_2 l_xq_0
        have z10 := b10.size
        try simp only [World.size_alloc, World.size_setCell, size_drew] at z10
        have B10 : Below w.heap.size w w10 := Below.t b10
        have rd_ := rd.below b10
        clear rd; have rd := rd_; clear rd_
        have rg_ := rg.below b10
        clear rg; have rg := rg_; clear rg_
        have rp_ := rp.below b10
        clear rp; have rp := rp_; clear rp_
        have rv_ := rv.below b10
        clear rv; have rv := rv_; clear rv_
        have re_ := re.below b10
        clear re; have re := re_; clear re_
        have xc_ : Box w10 (w1.heap.size) #[.slice cA0 en cc0, .slice cA1 cn1 cc1] 27 := xc.below b10 (by first | omega | (simp [size_drew]; done) | (simp [size_drew]; omega))
        clear xc; have xc := xc_; clear xc_
        have xp_ : Box w10 (w2.heap.size) #[.int .i64 (garD cL0 cL1 tI0 tI1), .slice pA1 en pc1, .slice pA2 pn2 pc2] 33 := xp.below b10 (by first | omega | (simp [size_drew]; done) | (simp [size_drew]; omega))
        clear xp; have xp := xp_; clear xp_
        have xq_ : Box w10 (w3.heap.size) #[.slice qA0 qn0 qc0, .slice qA1 qn1 qc1, .slice qA2 qn2 qc2] 37 := xq.below b10 (by first | omega | (simp [size_drew]; done) | (simp [size_drew]; omega))
        clear xq; have xq := xq_; clear xq_
        try simp only [World.size_alloc, World.size_setCell, size_drew] at ro
        rw [hdk.out]
        obtain rfl : o1 = cn1 := by rw [ro.len, decO_yes hdk.out, genL_len, hcn1.out]
        obtain ⟨cxc_0, cxc_1, fxc_0, fxc_1⟩ := xc.two
        have l_xc_0 : w1.heap.size < w10.heap.size := by omega
        obtain ⟨cxq_0, cxq_1, cxq_2, fxq_0, fxq_1, fxq_2⟩ := xq.three
        have l_xq_0 : w3.heap.size < w10.heap.size := by omega
        go_wp2_with fail
        refine (iPublicOk_L (RdL.sub (ls2 := [(.slice cA0 en cc0, .gates cL0), (.slice cA1 o1 cc1, .ints cL1)]) (rd).rd (by simp)) cL0n cL1n rp.rd hP0 hP1 hP2).mono ?_
        rintro e w11 ⟨rfl, b11⟩
        clear cxc_0 cxc_1 fxc_0 fxc_1 l_xc_0 cxq_0 cxq_1 cxq_2 fxq_0 fxq_1 fxq_2 l_xq_0
        have z11 := b11.size
        try simp only [World.size_alloc, World.size_setCell, size_drew] at z11
        have B11 : Below w.heap.size w w11 := Below.t b11
        have rd_ := rd.below b11
        clear rd; have rd := rd_; clear rd_
        have rg_ := rg.below b11
        clear rg; have rg := rg_; clear rg_
        have rp_ := rp.below b11
        clear rp; have rp := rp_; clear rp_
        have rv_ := rv.below b11
        clear rv; have rv := rv_; clear rv_
        have re_ := re.below b11
        clear re; have re := re_; clear re_
        have ro_ := ro.below b11
        clear ro; have ro := ro_; clear ro_
        have xc_ : Box w11 (w1.heap.size) #[.slice cA0 en cc0, .slice cA1 o1 cc1] 27 := xc.below b11 (by first | omega | (simp [size_drew]; done) | (simp [size_drew]; omega))
        clear xc; have xc := xc_; clear xc_
        have xp_ : Box w11 (w2.heap.size) #[.int .i64 (garD cL0 cL1 tI0 tI1), .slice pA1 en pc1, .slice pA2 pn2 pc2] 33 := xp.below b11 (by first | omega | (simp [size_drew]; done) | (simp [size_drew]; omega))
        clear xp; have xp := xp_; clear xp_
        have xq_ : Box w11 (w3.heap.size) #[.slice qA0 qn0 qc0, .slice qA1 qn1 qc1, .slice qA2 qn2 qc2] 37 := xq.below b11 (by first | omega | (simp [size_drew]; done) | (simp [size_drew]; omega))
        clear xq; have xq := xq_; clear xq_
        rw [hpb.out]
        go_wp2
        go_ret
        exact ⟨rfl, B11⟩
end Go.Proofs.Ytodnahpegecpiaa
namespace Go.Proofs.Ytodnahpegecpiaa
set_option linter.unusedSimpArgs false
set_option linter.unusedVariables false
open Go.ChangeShapes Go.WideShapes Go.ChangeAt Go.RowKit
set_option maxRecDepth 100000 in
theorem lifted_FnEveryWire (os : Os) (started : os.Started) (H : Type) (enc : TypeId × Value → H) :
    ReturnsInHanded {} Try.checked os 3 .any (Rows.fnEveryWireSpec.pre6 enc Try.prog Try.f3 Rows.fnEveryWireRow.domain false) (Rows.fnEveryWireSpec.post enc Try.prog Try.f3 false true false false) := by
  refine returnsInHanded_of_change (C := Try.checked) ownKnob_none started (by kernel_rfl) Try.func3
    (ChangeSpec.witness6 (enc := enc) (C := Try.checked) false ⟨#[], #[.slice none 0 0], []⟩ 8 (by kernel_rfl) (by kernel_rfl) (by kernel_rfl) (by kernel_rfl)) ?_
  intro W base args ds gs before hval0 hW hcnd _
  have hval : ∀ (j : Nat) t v, Try.f3.params[j]? = some t → args[j]? = some v → Value.okWide Try.prog W .any base t v := hval0
  have hW2 := hW
  obtain ⟨p, q, hA0, hV, rfl, hfz, hnd⟩ := hW
  have hA : DataW.TrodAll enc Try.prog W 0 (fun _ => true) true Try.f3.params.toList args.toList ds p := hA0
  rw [Try.params3] at hA hval
  obtain ⟨v0, vs0, d0, ds0, p0, q0, hargs, rfl, rfl, h0, r0⟩ := trodAll_cons hA
  obtain ⟨rfl, rfl, rfl⟩ := trodAll_nil r0
  obtain rfl : args = #[v0] := by cases args; simp_all
  obtain ⟨rfl, rfl⟩ := trodVars_none hV
  have k0 := h0
  have lt0 : ∀ x ∈ p0, x.block < W.heap.size := by obtain ⟨m, hm⟩ := k0; exact DataW.trod_lt m _ _ _ hm
  obtain ⟨A0, n0, c0, rfl, hx0⟩ := open_Bytes (hval 0 22 v0 rfl rfl) h0
  clear hA0 hval0
  refine (walk_FnEveryWire A0 n0 c0 W hx0).mono fun e W2 ⟨he, bel⟩ => ?_
  subst he
  exact ⟨_, rfl, _, _, _, [], _, [], hW2, trodAll_mk1 (shut_bool Try.underlying4 _), (trodAll_cons_mk (Below.trod laidOut_yes (by kernel_rfl) (of_decide_eq_true (by kernel_rfl)) k0 bel lt0) trodAll_mk0), rfl, bel.frame _, fun h => by cases h⟩
theorem facts_FnEveryWire : joinedFacts Try.prog 3 Try.f3 Rows.fnEveryWireSpec Rows.fnEveryWireRow = true := by
  unfold joinedFacts
  rw [mayEnter_yes, liftsFinal_no, make_cut]
  kernel_rfl
theorem wrap_FnEveryWire : Try.f3.isWrapper Try.prog Rows.fnEveryWireRow.wrapper Rows.fnEveryWireRow.mainSum := by
  unfold Func.isWrapper
  rw [if_neg (of_decide_eq_false (by kernel_rfl))]
  exact ⟨rfl, rfl⟩
theorem inst_FnEveryWire : Try.f3.isInstance Try.prog Rows.fnEveryWireRow.origin Rows.fnEveryWireRow.targs := of_decide_eq_true (by kernel_rfl)
theorem named_FnEveryWire : Try.prog.funcNamed Rows.fnEveryWireRow.func = some 3 := by kernel_rfl
theorem FnEveryWire_holds : Rows.FnEveryWireSaid :=
  OpenClaim.holds_of_wide 3 Try.f3 rfl rfl rfl rfl rfl rfl rfl ⟨rfl, rfl, rfl, rfl, rfl⟩ rfl rfl rfl rfl rfl named_FnEveryWire Try.func3 facts_FnEveryWire
    inst_FnEveryWire wrap_FnEveryWire
    (fun os started H enc _ => lifted_FnEveryWire os started H enc)
#print axioms FnEveryWire_holds
end Go.Proofs.Ytodnahpegecpiaa

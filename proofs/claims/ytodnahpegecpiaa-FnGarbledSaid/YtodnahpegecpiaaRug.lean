/- Contracts of RunGarbled. Printed by mac2.py. -/
import Derived.Test.YtodnahpegecpiaaRMath
import Derived.Test.YtodnahpegecpiaaEvg
namespace Go.Proofs.Ytodnahpegecpiaa
set_option linter.unusedSimpArgs false
set_option linter.unusedVariables false
open Go.RowKit
set_option maxRecDepth 100000 in
set_option maxHeartbeats 2000000 in
theorem sRunGarbled_L {cA0 : Option Addr} {cn0 cc0 : Nat} {cL0 : List (Int × Int × Int)} {cA1 : Option Addr} {cn1 cc1 : Nat} {cL1 : List Int} {yA0 : Option Addr} {yn0 yc0 : Nat} {yL0 : List Int} {w : World} (cH : RdL w [((.slice cA0 cn0 cc0), .gates cL0), ((.slice cA1 cn1 cc1), .ints cL1)]) (cL0n : cL0.length ≤ 1048576) (cL1n : cL1.length ≤ 1048576) (tI0 : Int) (tI1 : Int) (yH : RdL w [((.slice yA0 yn0 yc0), .ints yL0)]) (yL0n : yL0.length ≤ 1048576) :
  Calls Try.prog 81 #[.agg #[(.slice cA0 cn0 cc0), (.slice cA1 cn1 cc1)], .agg #[.int .i64 tI0, .int .i64 tI1], (.slice yA0 yn0 yc0)] w fun e w' => ∃ rA0 rn0 rc0, e = .returned (.tuple #[.slice rA0 rn0 rc0, .bool (rgOk cL0 cL1 tI0 tI1 yL0)]) ∧ OwnL w' w.heap.size w'.heap.size [(.slice rA0 rn0 rc0, .ints (rgL cL0 cL1 tI0 tI1 yL0))] ∧ Below w.heap.size w w' := by
 have cL0g : Gates w cA0 cn0 cL0 := RdG.toG (cH ((.slice cA0 cn0 cc0), .gates cL0) (by simp))
 have cL0l := Lib.hid cL0g.1
 have cL0m : cn0 ≤ 1048576 := by rw [← cL0l.out]; exact cL0n
 have cL1i : Ints w cA1 cn1 cL1 := Rd.toInts (cH ((.slice cA1 cn1 cc1), .ints cL1) (by simp))
 have cL1l := Lib.hid cL1i.len
 have cL1m : cn1 ≤ 1048576 := by rw [← cL1l.out]; exact cL1n
 have yL0i : Ints w yA0 yn0 yL0 := Rd.toInts (yH ((.slice yA0 yn0 yc0), .ints yL0) (by simp))
 have yL0l := Lib.hid yL0i.len
 have yL0m : yn0 ≤ 1048576 := by rw [← yL0l.out]; exact yL0n
 cases k1 : garbOk cL0 cL1 tI0 tI1 with
 | false =>
  have HO2 : Hid (rgOk cL0 cL1 tI0 tI1 yL0 = false) := by show _ = _; rw [rgOk, k1]; rfl
  go_enter Try.func81, Try.ntmps81
  go_wp2_with fail
  refine (sGarble_L (RdL.b cH) cL0n cL1n tI0 tI1).mono ?_
  rintro e w1 ⟨pA1, pn1, pc1, pA2, pn2, pc2, rfl, rg, b1⟩
  have z1 := b1.size
  try simp only [World.size_alloc, World.size_setCell, size_drew] at z1
  have B1 : Below w.heap.size w w1 := Below.t b1
  have xc_ : Box w1 (w.heap.size) #[(.slice cA0 cn0 cc0), (.slice cA1 cn1 cc1)] 27 := ((Box.new (g := w.heap.size) _ #[(.slice cA0 cn0 cc0), (.slice cA1 cn1 cc1)] 27 (by simp)).alloc _).below b1 (by first | omega | (simp [size_drew]; done) | (simp [size_drew]; omega))
  have xc := xc_; clear xc_
  have xt_ : Box w1 (w.heap.size + 1) #[.int .i64 tI0, .int .i64 tI1] 29 := (Box.new (g := w.heap.size + 1) _ #[.int .i64 tI0, .int .i64 tI1] 29 (by simp)).below b1 (by first | omega | (simp [size_drew]; done) | (simp [size_drew]; omega))
  have xt := xt_; clear xt_
  try simp only [World.size_alloc, World.size_setCell, size_drew] at rg
  rw [k1]
  obtain ⟨cxc_0, cxc_1, fxc_0, fxc_1⟩ := xc.two
  have l_xc_0 : w.heap.size < w1.heap.size := by omega
  have l_xc_1 : w.heap.size < w1.heap.size + 1 := by omega
  go_wp2
  refine bodyPost_ret (v := .tuple #[.slice (some ⟨w1.heap.size + 1, 0, none⟩) 0 0, .bool false]) (by simp [results, go_sem, Try.results81]) rfl ⟨_, _, _, by rw [HO2.out], ?_, ?_⟩
  ·rw [rgL_no HO2.out]; exact OwnL.mono (OwnL.lit0 (Box.new (g := w1.heap.size + 1) _ #[] 3 (by simp))) (by omega) (by simp) (by simp)
  ·repeat (with_reducible (first | assumption | exact Below.refl _ _ | refine Below.alloc ?_ (by first | omega | (simp; done) | (simp; omega)) _ | refine Below.setCell ?_ (by first | omega | (simp; done) | (simp; omega)) _ | refine Below.drew ?_ | refine below_drewN ?_ _))
 | true =>
  cases k2 : bitsOk yL0 80 with
  | false =>
   have HO2 : Hid (rgOk cL0 cL1 tI0 tI1 yL0 = false) := by show _ = _; rw [rgOk, k1, k2]; rfl
   go_enter Try.func81, Try.ntmps81
   go_wp2_with fail
   refine (sGarble_L (RdL.b cH) cL0n cL1n tI0 tI1).mono ?_
   rintro e w1 ⟨pA1, pn1, pc1, pA2, pn2, pc2, rfl, rg, b1⟩
   have z1 := b1.size
   try simp only [World.size_alloc, World.size_setCell, size_drew] at z1
   have B1 : Below w.heap.size w w1 := Below.t b1
   have xc_ : Box w1 (w.heap.size) #[(.slice cA0 cn0 cc0), (.slice cA1 cn1 cc1)] 27 := ((Box.new (g := w.heap.size) _ #[(.slice cA0 cn0 cc0), (.slice cA1 cn1 cc1)] 27 (by simp)).alloc _).below b1 (by first | omega | (simp [size_drew]; done) | (simp [size_drew]; omega))
   have xc := xc_; clear xc_
   have xt_ : Box w1 (w.heap.size + 1) #[.int .i64 tI0, .int .i64 tI1] 29 := (Box.new (g := w.heap.size + 1) _ #[.int .i64 tI0, .int .i64 tI1] 29 (by simp)).below b1 (by first | omega | (simp [size_drew]; done) | (simp [size_drew]; omega))
   have xt := xt_; clear xt_
   try simp only [World.size_alloc, World.size_setCell, size_drew] at rg
   rw [k1]
   obtain ⟨cxc_0, cxc_1, fxc_0, fxc_1⟩ := xc.two
   have l_xc_0 : w.heap.size < w1.heap.size := by omega
   have l_xc_1 : w.heap.size < w1.heap.size + 1 := by omega
   go_wp2_with fail
   clear cxc_0 cxc_1 fxc_0 fxc_1 l_xc_0 l_xc_1
   refine (l13Bits_any _ _ _ _ _ _ yL0i.b (by omega)).mono ?_
   rintro e w_ ⟨rfl, rfl⟩
   rw [k2]
   obtain ⟨cxc_0, cxc_1, fxc_0, fxc_1⟩ := xc.two
   have l_xc_0 : w.heap.size < w1.heap.size := by omega
   have l_xc_1 : w.heap.size < w1.heap.size + 1 := by omega
   go_wp2
   refine bodyPost_ret (v := .tuple #[.slice (some ⟨w1.heap.size + 1, 0, none⟩) 0 0, .bool false]) (by simp [results, go_sem, Try.results81]) rfl ⟨_, _, _, by rw [HO2.out], ?_, ?_⟩
   ·rw [rgL_no HO2.out]; exact OwnL.mono (OwnL.lit0 (Box.new (g := w1.heap.size + 1) _ #[] 3 (by simp))) (by omega) (by simp) (by simp)
   ·repeat (with_reducible (first | assumption | exact Below.refl _ _ | refine Below.alloc ?_ (by first | omega | (simp; done) | (simp; omega)) _ | refine Below.setCell ?_ (by first | omega | (simp; done) | (simp; omega)) _ | refine Below.drew ?_ | refine below_drewN ?_ _))
  | true =>
   have HO2 : Hid (rgOk cL0 cL1 tI0 tI1 yL0 = true) := by show _ = _; rw [rgOk, k1, k2]; rfl
   go_enter Try.func81, Try.ntmps81
   go_wp2_with fail
   refine (sGarble_L (RdL.b cH) cL0n cL1n tI0 tI1).mono ?_
   rintro e w1 ⟨pA1, pn1, pc1, pA2, pn2, pc2, rfl, rg, b1⟩
   have z1 := b1.size
   try simp only [World.size_alloc, World.size_setCell, size_drew] at z1
   have B1 : Below w.heap.size w w1 := Below.t b1
   have xc_ : Box w1 (w.heap.size) #[(.slice cA0 cn0 cc0), (.slice cA1 cn1 cc1)] 27 := ((Box.new (g := w.heap.size) _ #[(.slice cA0 cn0 cc0), (.slice cA1 cn1 cc1)] 27 (by simp)).alloc _).below b1 (by first | omega | (simp [size_drew]; done) | (simp [size_drew]; omega))
   have xc := xc_; clear xc_
   have xt_ : Box w1 (w.heap.size + 1) #[.int .i64 tI0, .int .i64 tI1] 29 := (Box.new (g := w.heap.size + 1) _ #[.int .i64 tI0, .int .i64 tI1] 29 (by simp)).below b1 (by first | omega | (simp [size_drew]; done) | (simp [size_drew]; omega))
   have xt := xt_; clear xt_
   try simp only [World.size_alloc, World.size_setCell, size_drew] at rg
   rw [k1]
   obtain ⟨cxc_0, cxc_1, fxc_0, fxc_1⟩ := xc.two
   have l_xc_0 : w.heap.size < w1.heap.size := by omega
   have l_xc_1 : w.heap.size < w1.heap.size + 1 := by omega
   go_wp2_with fail
   clear cxc_0 cxc_1 fxc_0 fxc_1 l_xc_0 l_xc_1
   refine (l13Bits_any _ _ _ _ _ _ yL0i.b (by omega)).mono ?_
   rintro e w_ ⟨rfl, rfl⟩
   rw [k2]
   have hZn : (garZ cL0 cL1 tI0 tI1).length ≤ 1048576 := Nat.le_trans (garZ_len _ _ _ _) cL0n
   have hTn : (garT cL0 cL1 tI0 tI1).length ≤ 1048576 := Nat.le_trans (garT_len _ _ _ _) (by omega)
   have hP0 : (puT cL0 cL1 (garD cL0 cL1 tI0 tI1) (garZ cL0 cL1 tI0 tI1) (garT cL0 cL1 tI0 tI1)).length ≤ 1048576 := Nat.le_trans (puT_len _ _ _ _ _) hTn
   have hP1 : (puC cL0 cL1 (garD cL0 cL1 tI0 tI1) (garZ cL0 cL1 tI0 tI1) (garT cL0 cL1 tI0 tI1)).length ≤ 1048576 := Nat.le_trans (puC_len _ _ _ _ _) cL0n
   have hP2 : (puD cL0 cL1 (garD cL0 cL1 tI0 tI1) (garZ cL0 cL1 tI0 tI1) (garT cL0 cL1 tI0 tI1)).length ≤ 1048576 := Nat.le_trans (puD_len _ _ _ _ _) cL1n
   have hLn : (inLab tI0 tI1 yL0).length ≤ 1048576 := Nat.le_trans (inLab_len _ _ _) yL0n
   have hEn : (evL cL0 cL1 (puT cL0 cL1 (garD cL0 cL1 tI0 tI1) (garZ cL0 cL1 tI0 tI1) (garT cL0 cL1 tI0 tI1)) (puC cL0 cL1 (garD cL0 cL1 tI0 tI1) (garZ cL0 cL1 tI0 tI1) (garT cL0 cL1 tI0 tI1)) (puD cL0 cL1 (garD cL0 cL1 tI0 tI1) (garZ cL0 cL1 tI0 tI1) (garT cL0 cL1 tI0 tI1)) (inLab tI0 tI1 yL0)).length ≤ 1048576 := Nat.le_trans (evL_len _ _ _ _ _ _) cL0n
   obtain ⟨cxc_0, cxc_1, fxc_0, fxc_1⟩ := xc.two
   have l_xc_0 : w.heap.size < w1.heap.size := by omega
   have l_xc_1 : w.heap.size < w1.heap.size + 1 := by omega
   go_wp2_with fail
   refine (sPublicOf_L (RdL.b cH) cL0n cL1n (garD cL0 cL1 tI0 tI1) (rg.alloc _).rd hZn hTn).mono ?_
   rintro e w2 ⟨qA0, qn0, qc0, qA1, qn1, qc1, qA2, qn2, qc2, rfl, rp, b2⟩
   clear cxc_0 cxc_1 fxc_0 fxc_1 l_xc_0 l_xc_1
   have z2 := b2.size
   try simp only [World.size_alloc, World.size_setCell, size_drew] at z2
   have B2 : Below w.heap.size w w2 := Below.t b2
   have rg_ := (rg.alloc _).below b2
   clear rg; have rg := rg_; clear rg_
   have xc_ : Box w2 (w.heap.size) #[(.slice cA0 cn0 cc0), (.slice cA1 cn1 cc1)] 27 := (xc.alloc _).below b2 (by first | omega | (simp [size_drew]; done) | (simp [size_drew]; omega))
   clear xc; have xc := xc_; clear xc_
   have xt_ : Box w2 (w.heap.size + 1) #[.int .i64 tI0, .int .i64 tI1] 29 := (xt.alloc _).below b2 (by first | omega | (simp [size_drew]; done) | (simp [size_drew]; omega))
   clear xt; have xt := xt_; clear xt_
   have xp_ : Box w2 (w1.heap.size) #[.int .i64 (garD cL0 cL1 tI0 tI1), .slice pA1 pn1 pc1, .slice pA2 pn2 pc2] 33 := (Box.new (g := w1.heap.size) _ #[.int .i64 (garD cL0 cL1 tI0 tI1), .slice pA1 pn1 pc1, .slice pA2 pn2 pc2] 33 (by simp)).below b2 (by first | omega | (simp [size_drew]; done) | (simp [size_drew]; omega))
   have xp := xp_; clear xp_
   try simp only [World.size_alloc, World.size_setCell, size_drew] at rp
   clear rg
   obtain ⟨cxc_0, cxc_1, fxc_0, fxc_1⟩ := xc.two
   have l_xc_0 : w.heap.size < w2.heap.size := by omega
   have l_xc_1 : w.heap.size < w2.heap.size + 1 := by omega
   go_wp2_with fail
   clear cxc_0 cxc_1 fxc_0 fxc_1 l_xc_0 l_xc_1
   obtain ⟨cxc_0, cxc_1, fxc_0, fxc_1⟩ := xc.two
   have l_xc_0 : w.heap.size < w2.heap.size := by omega
   have l_xc_1 : w.heap.size < w2.heap.size + 1 := by omega
   obtain ⟨cxt_0, cxt_1, fxt_0, fxt_1⟩ := xt.two
   have l_xt_0 : w.heap.size + 1 < w2.heap.size := by omega
   have l_xt_1 : w.heap.size + 1 < w2.heap.size + 1 := by omega
   go_wp2_with fail
   clear cxc_0 cxc_1 fxc_0 fxc_1 l_xc_0 l_xc_1 cxt_0 cxt_1 fxt_0 fxt_1 l_xt_0 l_xt_1
   generalize hw3 : World.alloc _ _ = w3
   have z3 : w2.heap.size + 1 ≤ w3.heap.size := by rw [← hw3]; simp
   have B3 : Below w.heap.size w w3 := by rw [← hw3]; repeat (with_reducible (first | assumption | exact Below.refl _ _ | refine Below.alloc ?_ (by first | omega | (simp; done) | (simp; omega)) _ | refine Below.setCell ?_ (by first | omega | (simp; done) | (simp; omega)) _ | refine Below.drew ?_ | refine below_drewN ?_ _))
   have hK : ∀ k, k < w2.heap.size → w3.heap[k]? = w2.heap[k]? := by
    intro k hk; rw [← hw3]
    repeat (first | rfl | refine (Below.heap_alloc _ _ _ (by first | omega | (simp; omega))).trans ?_)
   have rp_ := rp.keepBlock (w' := w3) (by omega) (fun k h1 h2 => hK k  (by have := rp.2.1; omega))
   clear rp; have rp := rp_; clear rp_
   have xc_ : Box w3 (w.heap.size) #[(.slice cA0 cn0 cc0), (.slice cA1 cn1 cc1)] 27 := (by rw [← hw3]; exact (xc.alloc _))
   clear xc; have xc := xc_; clear xc_
   have xt_ : Box w3 (w.heap.size + 1) #[.int .i64 tI0, .int .i64 tI1] 29 := (by rw [← hw3]; exact (xt.alloc _))
   clear xt; have xt := xt_; clear xt_
   have xp_ : Box w3 (w1.heap.size) #[.int .i64 (garD cL0 cL1 tI0 tI1), .slice pA1 pn1 pc1, .slice pA2 pn2 pc2] 33 := (by rw [← hw3]; exact (xp.alloc _))
   clear xp; have xp := xp_; clear xp_
   have xq_ : Box w3 (w2.heap.size) #[.slice qA0 qn0 qc0, .slice qA1 qn1 qc1, .slice qA2 qn2 qc2] 37 := (by rw [← hw3]; exact (Box.new (g := w2.heap.size) _ #[.slice qA0 qn0 qc0, .slice qA1 qn1 qc1, .slice qA2 qn2 qc2] 37 (by simp)))
   have xq := xq_; clear xq_
   clear hw3 hK
   refine wp_region_held_drew (S := fun W => W.cell? ⟨w.heap.size, 0, none⟩ = some ((.slice cA0 cn0 cc0)) ∧ W.cell? ⟨w.heap.size, 1, none⟩ = some ((.slice cA1 cn1 cc1)) ∧ W.cell? ⟨w2.heap.size, 0, none⟩ = some (.slice qA0 qn0 qc0) ∧ W.cell? ⟨w2.heap.size, 1, none⟩ = some (.slice qA1 qn1 qc1) ∧ W.cell? ⟨w2.heap.size, 2, none⟩ = some (.slice qA2 qn2 qc2) ∧ W.cell? ⟨w.heap.size + 1, 0, none⟩ = some (.int .i64 tI0) ∧ W.cell? ⟨w.heap.size + 1, 1, none⟩ = some (.int .i64 tI1)) (by kernel_rfl) ⟨xc.drew.two.1, xc.drew.two.2.1, xq.drew.three.1, xq.drew.three.2.1, xq.drew.three.2.2.1, xt.drew.two.1, xt.drew.two.2.1⟩ (fun hS => ?_)
   (refine tk 0 hS ?_; (try simp only [Act.put, List.setIfInBounds_toArray, List.set_cons_zero, List.set_cons_succ]))
   (refine tk 1 hS ?_; (try simp only [Act.put, List.setIfInBounds_toArray, List.set_cons_zero, List.set_cons_succ]))
   (refine tk 2 hS ?_; (try simp only [Act.put, List.setIfInBounds_toArray, List.set_cons_zero, List.set_cons_succ]))
   (refine tk 3 hS ?_; (try simp only [Act.put, List.setIfInBounds_toArray, List.set_cons_zero, List.set_cons_succ]))
   refine on 4 ?_
   refine callH (by go_simp; (first | done | with_reducible rfl | exact ⟨rfl, rfl⟩)) ?_
   go_at_call 53
   refine (sInputLabels_L tI0 tI1 (RdL.b yH) yL0n).mono ?_
   rintro e w4 ⟨lA, ln, lc, rfl, rl, b4⟩
   clear hS
   have z4 := Below.size b4
   (try simp only [World.size_alloc, World.size_setCell, size_drew] at z4)
   have B4 : Below w.heap.size w w4 := Below.t b4
   have rp_ := (rp.drew.below b4)
   clear rp; have rp := rp_; clear rp_
   have xc_ : Box w4 (w.heap.size) #[(.slice cA0 cn0 cc0), (.slice cA1 cn1 cc1)] 27 := (Box.b xc.drew b4)
   clear xc; have xc := xc_; clear xc_
   have xt_ : Box w4 (w.heap.size + 1) #[.int .i64 tI0, .int .i64 tI1] 29 := (Box.b xt.drew b4)
   clear xt; have xt := xt_; clear xt_
   have xp_ : Box w4 (w1.heap.size) #[.int .i64 (garD cL0 cL1 tI0 tI1), .slice pA1 pn1 pc1, .slice pA2 pn2 pc2] 33 := (Box.b xp.drew b4)
   clear xp; have xp := xp_; clear xp_
   have xq_ : Box w4 (w2.heap.size) #[.slice qA0 qn0 qc0, .slice qA1 qn1 qc1, .slice qA2 qn2 qc2] 37 := (Box.b xq.drew b4)
   clear xq; have xq := xq_; clear xq_
   (try simp only [World.size_alloc, World.size_setCell, size_drew] at rl)
   refine ⟨_, rfl, ⟨xc.two.1, xc.two.2.1, xq.three.1, xq.three.2.1, xq.three.2.2.1, xt.two.1, xt.two.2.1⟩, fun hS => ?_⟩
   (try simp only [Act.put, List.setIfInBounds_toArray, List.set_cons_zero, List.set_cons_succ])
   refine on 5 ?_
   refine callH (by go_simp; (first | done | with_reducible rfl | exact ⟨rfl, rfl⟩)) ?_
   go_at_call 79
   refine (sEvalGarbled_L (RdL.b cH) cL0n cL1n rp.rd hP0 hP1 hP2 rl.rd hLn).mono ?_
   rintro e w5 ⟨vA, vn, vc, rfl, rv, b5⟩
   clear hS
   have z5 := Below.size b5
   (try simp only [World.size_alloc, World.size_setCell, size_drew] at z5)
   have B5 : Below w.heap.size w w5 := Below.t b5
   have rp_ := (rp.below b5)
   clear rp; have rp := rp_; clear rp_
   have rl_ := (rl.below b5)
   clear rl; have rl := rl_; clear rl_
   have xc_ : Box w5 (w.heap.size) #[(.slice cA0 cn0 cc0), (.slice cA1 cn1 cc1)] 27 := (Box.b xc b5)
   clear xc; have xc := xc_; clear xc_
   have xt_ : Box w5 (w.heap.size + 1) #[.int .i64 tI0, .int .i64 tI1] 29 := (Box.b xt b5)
   clear xt; have xt := xt_; clear xt_
   have xp_ : Box w5 (w1.heap.size) #[.int .i64 (garD cL0 cL1 tI0 tI1), .slice pA1 pn1 pc1, .slice pA2 pn2 pc2] 33 := (Box.b xp b5)
   clear xp; have xp := xp_; clear xp_
   have xq_ : Box w5 (w2.heap.size) #[.slice qA0 qn0 qc0, .slice qA1 qn1 qc1, .slice qA2 qn2 qc2] 37 := (Box.b xq b5)
   clear xq; have xq := xq_; clear xq_
   (try simp only [World.size_alloc, World.size_setCell, size_drew] at rv)
   refine ⟨_, rfl, ⟨xc.two.1, xc.two.2.1, xq.three.1, xq.three.2.1, xq.three.2.2.1, xt.two.1, xt.two.2.1⟩, fun hS => ?_⟩
   (try simp only [Act.put, List.setIfInBounds_toArray, List.set_cons_zero, List.set_cons_succ])
   (refine tk 6 hS ?_; (try simp only [Act.put, List.setIfInBounds_toArray, List.set_cons_zero, List.set_cons_succ]))
   (refine tk 7 hS ?_; (try simp only [Act.put, List.setIfInBounds_toArray, List.set_cons_zero, List.set_cons_succ]))
   (refine tk 8 hS ?_; (try simp only [Act.put, List.setIfInBounds_toArray, List.set_cons_zero, List.set_cons_succ]))
   (refine tk 9 hS ?_; (try simp only [Act.put, List.setIfInBounds_toArray, List.set_cons_zero, List.set_cons_succ]))
   (refine tk 10 hS ?_; (try simp only [Act.put, List.setIfInBounds_toArray, List.set_cons_zero, List.set_cons_succ]))
   clear hS
   refine wpAnyH_done (by kernel_rfl) ?_ _
   obtain ⟨cxc_0, cxc_1, fxc_0, fxc_1⟩ := xc.two
   have l_xc_0 : w.heap.size < w5.heap.size := by omega
   obtain ⟨cxq_0, cxq_1, cxq_2, fxq_0, fxq_1, fxq_2⟩ := xq.three
   have l_xq_0 : w2.heap.size < w5.heap.size := by omega
   go_wp2_with fail
   refine (sDecodeOutputs_L (RdL.b cH) cL0n cL1n rp.rd hP0 hP1 hP2 rv.rd hEn).mono ?_
   rintro e w6 ⟨oA, o1, o2, rfl, ro, b6⟩
   clear cxc_0 cxc_1 fxc_0 fxc_1 l_xc_0 cxq_0 cxq_1 cxq_2 fxq_0 fxq_1 fxq_2 l_xq_0
   have z6 := b6.size
   try simp only [World.size_alloc, World.size_setCell, size_drew] at z6
   have B6 : Below w.heap.size w w6 := Below.t b6
   have rp_ := rp.below b6
   clear rp; have rp := rp_; clear rp_
   have rl_ := rl.below b6
   clear rl; have rl := rl_; clear rl_
   have rv_ := rv.below b6
   clear rv; have rv := rv_; clear rv_
   have xc_ : Box w6 (w.heap.size) #[(.slice cA0 cn0 cc0), (.slice cA1 cn1 cc1)] 27 := xc.below b6 (by first | omega | (simp [size_drew]; done) | (simp [size_drew]; omega))
   clear xc; have xc := xc_; clear xc_
   have xt_ : Box w6 (w.heap.size + 1) #[.int .i64 tI0, .int .i64 tI1] 29 := xt.below b6 (by first | omega | (simp [size_drew]; done) | (simp [size_drew]; omega))
   clear xt; have xt := xt_; clear xt_
   have xp_ : Box w6 (w1.heap.size) #[.int .i64 (garD cL0 cL1 tI0 tI1), .slice pA1 pn1 pc1, .slice pA2 pn2 pc2] 33 := xp.below b6 (by first | omega | (simp [size_drew]; done) | (simp [size_drew]; omega))
   clear xp; have xp := xp_; clear xp_
   have xq_ : Box w6 (w2.heap.size) #[.slice qA0 qn0 qc0, .slice qA1 qn1 qc1, .slice qA2 qn2 qc2] 37 := xq.below b6 (by first | omega | (simp [size_drew]; done) | (simp [size_drew]; omega))
   clear xq; have xq := xq_; clear xq_
   try simp only [World.size_alloc, World.size_setCell, size_drew] at ro
   obtain ⟨cxc_0, cxc_1, fxc_0, fxc_1⟩ := xc.two
   have l_xc_0 : w.heap.size < w6.heap.size := by omega
   go_wp2
   refine bodyPost_ret (v := .tuple #[.slice oA o1 o2, .bool true]) (by simp [results, go_sem, Try.results81]) rfl ⟨_, _, _, by rw [HO2.out], ?_, ?_⟩
   ·rw [rgL_yes HO2.out]; exact OwnL.mono ro (by omega) (by first | omega | (simp [size_drew]; done) | (simp [size_drew]; omega)) (Nat.le_refl _)
   ·repeat (with_reducible (first | assumption | exact Below.refl _ _ | refine Below.alloc ?_ (by first | omega | (simp; done) | (simp; omega)) _ | refine Below.setCell ?_ (by first | omega | (simp; done) | (simp; omega)) _ | refine Below.drew ?_ | refine below_drewN ?_ _))
set_option maxRecDepth 100000 in
set_option maxHeartbeats 2000000 in
theorem iRunGarbled_L {cA0 : Option Addr} {cn0 cc0 : Nat} {cL0 : List (Int × Int × Int)} {cA1 : Option Addr} {cn1 cc1 : Nat} {cL1 : List Int} {yA0 : Option Addr} {yn0 yc0 : Nat} {yL0 : List Int} {w : World} (cH : RdL w [((.slice cA0 cn0 cc0), .gates cL0), ((.slice cA1 cn1 cc1), .ints cL1)]) (cL0n : cL0.length ≤ 1048576) (cL1n : cL1.length ≤ 1048576) (tI0 : Int) (tI1 : Int) (yH : RdL w [((.slice yA0 yn0 yc0), .ints yL0)]) (yL0n : yL0.length ≤ 1048576) :
  Calls Try.prog 78 #[.agg #[(.slice cA0 cn0 cc0), (.slice cA1 cn1 cc1)], .agg #[.int .i64 tI0, .int .i64 tI1], (.slice yA0 yn0 yc0)] w fun e w' => ∃ rA0 rn0 rc0, e = .returned (.tuple #[.slice rA0 rn0 rc0, .bool (rgOk cL0 cL1 tI0 tI1 yL0)]) ∧ OwnL w' w.heap.size w'.heap.size [(.slice rA0 rn0 rc0, .ints (rgL cL0 cL1 tI0 tI1 yL0))] ∧ Below w.heap.size w w' := by
 have cL0g : Gates w cA0 cn0 cL0 := RdG.toG (cH ((.slice cA0 cn0 cc0), .gates cL0) (by simp))
 have cL0l := Lib.hid cL0g.1
 have cL0m : cn0 ≤ 1048576 := by rw [← cL0l.out]; exact cL0n
 have cL1i : Ints w cA1 cn1 cL1 := Rd.toInts (cH ((.slice cA1 cn1 cc1), .ints cL1) (by simp))
 have cL1l := Lib.hid cL1i.len
 have cL1m : cn1 ≤ 1048576 := by rw [← cL1l.out]; exact cL1n
 have yL0i : Ints w yA0 yn0 yL0 := Rd.toInts (yH ((.slice yA0 yn0 yc0), .ints yL0) (by simp))
 have yL0l := Lib.hid yL0i.len
 have yL0m : yn0 ≤ 1048576 := by rw [← yL0l.out]; exact yL0n
 cases k1 : garbOk cL0 cL1 tI0 tI1 with
 | false =>
  have HO2 : Hid (rgOk cL0 cL1 tI0 tI1 yL0 = false) := by show _ = _; rw [rgOk, k1]; rfl
  go_enter Try.func78, Try.ntmps78
  go_wp2_with fail
  refine (iGarble_L (RdL.b cH) cL0n cL1n tI0 tI1).mono ?_
  rintro e w1 ⟨pA1, pn1, pc1, pA2, pn2, pc2, rfl, rg, b1⟩
  have z1 := b1.size
  try simp only [World.size_alloc, World.size_setCell, size_drew] at z1
  have B1 : Below w.heap.size w w1 := Below.t b1
  have xc_ : Box w1 (w.heap.size) #[(.slice cA0 cn0 cc0), (.slice cA1 cn1 cc1)] 27 := ((Box.new (g := w.heap.size) _ #[(.slice cA0 cn0 cc0), (.slice cA1 cn1 cc1)] 27 (by simp)).alloc _).below b1 (by first | omega | (simp [size_drew]; done) | (simp [size_drew]; omega))
  have xc := xc_; clear xc_
  have xt_ : Box w1 (w.heap.size + 1) #[.int .i64 tI0, .int .i64 tI1] 29 := (Box.new (g := w.heap.size + 1) _ #[.int .i64 tI0, .int .i64 tI1] 29 (by simp)).below b1 (by first | omega | (simp [size_drew]; done) | (simp [size_drew]; omega))
  have xt := xt_; clear xt_
  try simp only [World.size_alloc, World.size_setCell, size_drew] at rg
  rw [k1]
  obtain ⟨cxc_0, cxc_1, fxc_0, fxc_1⟩ := xc.two
  have l_xc_0 : w.heap.size < w1.heap.size := by omega
  have l_xc_1 : w.heap.size < w1.heap.size + 1 := by omega
  go_wp2
  refine bodyPost_ret (v := .tuple #[.slice none 0 0, .bool false]) (by simp [results, go_sem, Try.results78]) rfl ⟨none, 0, 0, by rw [HO2.out], ?_, ?_⟩
  ·rw [rgL_no HO2.out]; exact OwnL.nones _ (by simp) (by first | omega | (simp [size_drew]; done) | (simp [size_drew]; omega))
  ·repeat (with_reducible (first | assumption | exact Below.refl _ _ | refine Below.alloc ?_ (by first | omega | (simp; done) | (simp; omega)) _ | refine Below.setCell ?_ (by first | omega | (simp; done) | (simp; omega)) _ | refine Below.drew ?_ | refine below_drewN ?_ _))
 | true =>
  cases k2 : ((yn0 : Int) == 80) with
  | false =>
   have HO2 : Hid (rgOk cL0 cL1 tI0 tI1 yL0 = false) := by show _ = _; rw [rgOk, k1, show bitsOk yL0 80 = (((yn0 : Int) == 80) && allBit yL0) by rw [bitsOk, yL0l.out, Bool.and_comm], k2]; rfl
   have k2' : ((yn0 : Int) != 80) = true := by simp at k2 ⊢; omega
   go_enter Try.func78, Try.ntmps78
   go_wp2_with fail
   refine (iGarble_L (RdL.b cH) cL0n cL1n tI0 tI1).mono ?_
   rintro e w1 ⟨pA1, pn1, pc1, pA2, pn2, pc2, rfl, rg, b1⟩
   have z1 := b1.size
   try simp only [World.size_alloc, World.size_setCell, size_drew] at z1
   have B1 : Below w.heap.size w w1 := Below.t b1
   have xc_ : Box w1 (w.heap.size) #[(.slice cA0 cn0 cc0), (.slice cA1 cn1 cc1)] 27 := ((Box.new (g := w.heap.size) _ #[(.slice cA0 cn0 cc0), (.slice cA1 cn1 cc1)] 27 (by simp)).alloc _).below b1 (by first | omega | (simp [size_drew]; done) | (simp [size_drew]; omega))
   have xc := xc_; clear xc_
   have xt_ : Box w1 (w.heap.size + 1) #[.int .i64 tI0, .int .i64 tI1] 29 := (Box.new (g := w.heap.size + 1) _ #[.int .i64 tI0, .int .i64 tI1] 29 (by simp)).below b1 (by first | omega | (simp [size_drew]; done) | (simp [size_drew]; omega))
   have xt := xt_; clear xt_
   try simp only [World.size_alloc, World.size_setCell, size_drew] at rg
   rw [k1]
   obtain ⟨cxc_0, cxc_1, fxc_0, fxc_1⟩ := xc.two
   have l_xc_0 : w.heap.size < w1.heap.size := by omega
   have l_xc_1 : w.heap.size < w1.heap.size + 1 := by omega
   go_wp2
   refine bodyPost_ret (v := .tuple #[.slice none 0 0, .bool false]) (by simp [results, go_sem, Try.results78]) rfl ⟨none, 0, 0, by rw [HO2.out], ?_, ?_⟩
   ·rw [rgL_no HO2.out]; exact OwnL.nones _ (by simp) (by first | omega | (simp [size_drew]; done) | (simp [size_drew]; omega))
   ·repeat (with_reducible (first | assumption | exact Below.refl _ _ | refine Below.alloc ?_ (by first | omega | (simp; done) | (simp; omega)) _ | refine Below.setCell ?_ (by first | omega | (simp; done) | (simp; omega)) _ | refine Below.drew ?_ | refine below_drewN ?_ _))
  | true =>
   cases k3 : allBit yL0 with
   | false =>
    have HO2 : Hid (rgOk cL0 cL1 tI0 tI1 yL0 = false) := by show _ = _; rw [rgOk, k1, show bitsOk yL0 80 = (((yn0 : Int) == 80) && allBit yL0) by rw [bitsOk, yL0l.out, Bool.and_comm], k2, k3]; rfl
    have k2' : ((yn0 : Int) != 80) = false := by simp at k2 ⊢; omega
    go_enter Try.func78, Try.ntmps78
    go_wp2_with fail
    refine (iGarble_L (RdL.b cH) cL0n cL1n tI0 tI1).mono ?_
    rintro e w1 ⟨pA1, pn1, pc1, pA2, pn2, pc2, rfl, rg, b1⟩
    have z1 := b1.size
    try simp only [World.size_alloc, World.size_setCell, size_drew] at z1
    have B1 : Below w.heap.size w w1 := Below.t b1
    have xc_ : Box w1 (w.heap.size) #[(.slice cA0 cn0 cc0), (.slice cA1 cn1 cc1)] 27 := ((Box.new (g := w.heap.size) _ #[(.slice cA0 cn0 cc0), (.slice cA1 cn1 cc1)] 27 (by simp)).alloc _).below b1 (by first | omega | (simp [size_drew]; done) | (simp [size_drew]; omega))
    have xc := xc_; clear xc_
    have xt_ : Box w1 (w.heap.size + 1) #[.int .i64 tI0, .int .i64 tI1] 29 := (Box.new (g := w.heap.size + 1) _ #[.int .i64 tI0, .int .i64 tI1] 29 (by simp)).below b1 (by first | omega | (simp [size_drew]; done) | (simp [size_drew]; omega))
    have xt := xt_; clear xt_
    try simp only [World.size_alloc, World.size_setCell, size_drew] at rg
    rw [k1]
    obtain ⟨cxc_0, cxc_1, fxc_0, fxc_1⟩ := xc.two
    have l_xc_0 : w.heap.size < w1.heap.size := by omega
    have l_xc_1 : w.heap.size < w1.heap.size + 1 := by omega
    go_wp2_with fail
    clear cxc_0 cxc_1 fxc_0 fxc_1 l_xc_0 l_xc_1
    refine (areBits_any _ _ _ _ _ yL0i.b (by omega)).mono ?_
    rintro e w_ ⟨rfl, rfl⟩
    rw [k3]
    obtain ⟨cxc_0, cxc_1, fxc_0, fxc_1⟩ := xc.two
    have l_xc_0 : w.heap.size < w1.heap.size := by omega
    have l_xc_1 : w.heap.size < w1.heap.size + 1 := by omega
    go_wp2
    refine bodyPost_ret (v := .tuple #[.slice none 0 0, .bool false]) (by simp [results, go_sem, Try.results78]) rfl ⟨none, 0, 0, by rw [HO2.out], ?_, ?_⟩
    ·rw [rgL_no HO2.out]; exact OwnL.nones _ (by simp) (by first | omega | (simp [size_drew]; done) | (simp [size_drew]; omega))
    ·repeat (with_reducible (first | assumption | exact Below.refl _ _ | refine Below.alloc ?_ (by first | omega | (simp; done) | (simp; omega)) _ | refine Below.setCell ?_ (by first | omega | (simp; done) | (simp; omega)) _ | refine Below.drew ?_ | refine below_drewN ?_ _))
   | true =>
    have HO2 : Hid (rgOk cL0 cL1 tI0 tI1 yL0 = true) := by show _ = _; rw [rgOk, k1, show bitsOk yL0 80 = (((yn0 : Int) == 80) && allBit yL0) by rw [bitsOk, yL0l.out, Bool.and_comm], k2, k3]; rfl
    have k2' : ((yn0 : Int) != 80) = false := by simp at k2 ⊢; omega
    go_enter Try.func78, Try.ntmps78
    go_wp2_with fail
    refine (iGarble_L (RdL.b cH) cL0n cL1n tI0 tI1).mono ?_
    rintro e w1 ⟨pA1, pn1, pc1, pA2, pn2, pc2, rfl, rg, b1⟩
    have z1 := b1.size
    try simp only [World.size_alloc, World.size_setCell, size_drew] at z1
    have B1 : Below w.heap.size w w1 := Below.t b1
    have xc_ : Box w1 (w.heap.size) #[(.slice cA0 cn0 cc0), (.slice cA1 cn1 cc1)] 27 := ((Box.new (g := w.heap.size) _ #[(.slice cA0 cn0 cc0), (.slice cA1 cn1 cc1)] 27 (by simp)).alloc _).below b1 (by first | omega | (simp [size_drew]; done) | (simp [size_drew]; omega))
    have xc := xc_; clear xc_
    have xt_ : Box w1 (w.heap.size + 1) #[.int .i64 tI0, .int .i64 tI1] 29 := (Box.new (g := w.heap.size + 1) _ #[.int .i64 tI0, .int .i64 tI1] 29 (by simp)).below b1 (by first | omega | (simp [size_drew]; done) | (simp [size_drew]; omega))
    have xt := xt_; clear xt_
    try simp only [World.size_alloc, World.size_setCell, size_drew] at rg
    rw [k1]
    obtain ⟨cxc_0, cxc_1, fxc_0, fxc_1⟩ := xc.two
    have l_xc_0 : w.heap.size < w1.heap.size := by omega
    have l_xc_1 : w.heap.size < w1.heap.size + 1 := by omega
    go_wp2_with fail
    clear cxc_0 cxc_1 fxc_0 fxc_1 l_xc_0 l_xc_1
    refine (areBits_any _ _ _ _ _ yL0i.b (by omega)).mono ?_
    rintro e w_ ⟨rfl, rfl⟩
    rw [k3]
    have hZn : (garZ cL0 cL1 tI0 tI1).length ≤ 1048576 := Nat.le_trans (garZ_len _ _ _ _) cL0n
    have hTn : (garT cL0 cL1 tI0 tI1).length ≤ 1048576 := Nat.le_trans (garT_len _ _ _ _) (by omega)
    have hP0 : (puT cL0 cL1 (garD cL0 cL1 tI0 tI1) (garZ cL0 cL1 tI0 tI1) (garT cL0 cL1 tI0 tI1)).length ≤ 1048576 := Nat.le_trans (puT_len _ _ _ _ _) hTn
    have hP1 : (puC cL0 cL1 (garD cL0 cL1 tI0 tI1) (garZ cL0 cL1 tI0 tI1) (garT cL0 cL1 tI0 tI1)).length ≤ 1048576 := Nat.le_trans (puC_len _ _ _ _ _) cL0n
    have hP2 : (puD cL0 cL1 (garD cL0 cL1 tI0 tI1) (garZ cL0 cL1 tI0 tI1) (garT cL0 cL1 tI0 tI1)).length ≤ 1048576 := Nat.le_trans (puD_len _ _ _ _ _) cL1n
    have hLn : (inLab tI0 tI1 yL0).length ≤ 1048576 := Nat.le_trans (inLab_len _ _ _) yL0n
    have hEn : (evL cL0 cL1 (puT cL0 cL1 (garD cL0 cL1 tI0 tI1) (garZ cL0 cL1 tI0 tI1) (garT cL0 cL1 tI0 tI1)) (puC cL0 cL1 (garD cL0 cL1 tI0 tI1) (garZ cL0 cL1 tI0 tI1) (garT cL0 cL1 tI0 tI1)) (puD cL0 cL1 (garD cL0 cL1 tI0 tI1) (garZ cL0 cL1 tI0 tI1) (garT cL0 cL1 tI0 tI1)) (inLab tI0 tI1 yL0)).length ≤ 1048576 := Nat.le_trans (evL_len _ _ _ _ _ _) cL0n
    obtain ⟨cxc_0, cxc_1, fxc_0, fxc_1⟩ := xc.two
    have l_xc_0 : w.heap.size < w1.heap.size := by omega
    have l_xc_1 : w.heap.size < w1.heap.size + 1 := by omega
    go_wp2_with fail
    refine (iPublicOf_L (RdL.b cH) cL0n cL1n (garD cL0 cL1 tI0 tI1) (rg.alloc _).rd hZn hTn).mono ?_
    rintro e w2 ⟨qA0, qn0, qc0, qA1, qn1, qc1, qA2, qn2, qc2, rfl, rp, b2⟩
    clear cxc_0 cxc_1 fxc_0 fxc_1 l_xc_0 l_xc_1
    have z2 := b2.size
    try simp only [World.size_alloc, World.size_setCell, size_drew] at z2
    have B2 : Below w.heap.size w w2 := Below.t b2
    have rg_ := (rg.alloc _).below b2
    clear rg; have rg := rg_; clear rg_
    have xc_ : Box w2 (w.heap.size) #[(.slice cA0 cn0 cc0), (.slice cA1 cn1 cc1)] 27 := (xc.alloc _).below b2 (by first | omega | (simp [size_drew]; done) | (simp [size_drew]; omega))
    clear xc; have xc := xc_; clear xc_
    have xt_ : Box w2 (w.heap.size + 1) #[.int .i64 tI0, .int .i64 tI1] 29 := (xt.alloc _).below b2 (by first | omega | (simp [size_drew]; done) | (simp [size_drew]; omega))
    clear xt; have xt := xt_; clear xt_
    have xp_ : Box w2 (w1.heap.size) #[.int .i64 (garD cL0 cL1 tI0 tI1), .slice pA1 pn1 pc1, .slice pA2 pn2 pc2] 33 := (Box.new (g := w1.heap.size) _ #[.int .i64 (garD cL0 cL1 tI0 tI1), .slice pA1 pn1 pc1, .slice pA2 pn2 pc2] 33 (by simp)).below b2 (by first | omega | (simp [size_drew]; done) | (simp [size_drew]; omega))
    have xp := xp_; clear xp_
    try simp only [World.size_alloc, World.size_setCell, size_drew] at rp
    clear rg
    obtain ⟨cxc_0, cxc_1, fxc_0, fxc_1⟩ := xc.two
    have l_xc_0 : w.heap.size < w2.heap.size := by omega
    have l_xc_1 : w.heap.size < w2.heap.size + 1 := by omega
    go_wp2_with fail
    clear cxc_0 cxc_1 fxc_0 fxc_1 l_xc_0 l_xc_1
    obtain ⟨cxc_0, cxc_1, fxc_0, fxc_1⟩ := xc.two
    have l_xc_0 : w.heap.size < w2.heap.size := by omega
    have l_xc_1 : w.heap.size < w2.heap.size + 1 := by omega
    obtain ⟨cxt_0, cxt_1, fxt_0, fxt_1⟩ := xt.two
    have l_xt_0 : w.heap.size + 1 < w2.heap.size := by omega
    have l_xt_1 : w.heap.size + 1 < w2.heap.size + 1 := by omega
    go_wp2_with fail
    clear cxc_0 cxc_1 fxc_0 fxc_1 l_xc_0 l_xc_1 cxt_0 cxt_1 fxt_0 fxt_1 l_xt_0 l_xt_1
    generalize hw3 : World.alloc _ _ = w3
    have z3 : w2.heap.size + 1 ≤ w3.heap.size := by rw [← hw3]; simp
    have B3 : Below w.heap.size w w3 := by rw [← hw3]; repeat (with_reducible (first | assumption | exact Below.refl _ _ | refine Below.alloc ?_ (by first | omega | (simp; done) | (simp; omega)) _ | refine Below.setCell ?_ (by first | omega | (simp; done) | (simp; omega)) _ | refine Below.drew ?_ | refine below_drewN ?_ _))
    have hK : ∀ k, k < w2.heap.size → w3.heap[k]? = w2.heap[k]? := by
     intro k hk; rw [← hw3]
     repeat (first | rfl | refine (Below.heap_alloc _ _ _ (by first | omega | (simp; omega))).trans ?_)
    have rp_ := rp.keepBlock (w' := w3) (by omega) (fun k h1 h2 => hK k  (by have := rp.2.1; omega))
    clear rp; have rp := rp_; clear rp_
    have xc_ : Box w3 (w.heap.size) #[(.slice cA0 cn0 cc0), (.slice cA1 cn1 cc1)] 27 := (by rw [← hw3]; exact (xc.alloc _))
    clear xc; have xc := xc_; clear xc_
    have xt_ : Box w3 (w.heap.size + 1) #[.int .i64 tI0, .int .i64 tI1] 29 := (by rw [← hw3]; exact (xt.alloc _))
    clear xt; have xt := xt_; clear xt_
    have xp_ : Box w3 (w1.heap.size) #[.int .i64 (garD cL0 cL1 tI0 tI1), .slice pA1 pn1 pc1, .slice pA2 pn2 pc2] 33 := (by rw [← hw3]; exact (xp.alloc _))
    clear xp; have xp := xp_; clear xp_
    have xq_ : Box w3 (w2.heap.size) #[.slice qA0 qn0 qc0, .slice qA1 qn1 qc1, .slice qA2 qn2 qc2] 37 := (by rw [← hw3]; exact (Box.new (g := w2.heap.size) _ #[.slice qA0 qn0 qc0, .slice qA1 qn1 qc1, .slice qA2 qn2 qc2] 37 (by simp)))
    have xq := xq_; clear xq_
    clear hw3 hK
    refine wp_region_held_drew (S := fun W => W.cell? ⟨w.heap.size, 0, none⟩ = some ((.slice cA0 cn0 cc0)) ∧ W.cell? ⟨w.heap.size, 1, none⟩ = some ((.slice cA1 cn1 cc1)) ∧ W.cell? ⟨w2.heap.size, 0, none⟩ = some (.slice qA0 qn0 qc0) ∧ W.cell? ⟨w2.heap.size, 1, none⟩ = some (.slice qA1 qn1 qc1) ∧ W.cell? ⟨w2.heap.size, 2, none⟩ = some (.slice qA2 qn2 qc2) ∧ W.cell? ⟨w.heap.size + 1, 0, none⟩ = some (.int .i64 tI0) ∧ W.cell? ⟨w.heap.size + 1, 1, none⟩ = some (.int .i64 tI1)) (by kernel_rfl) ⟨xc.drew.two.1, xc.drew.two.2.1, xq.drew.three.1, xq.drew.three.2.1, xq.drew.three.2.2.1, xt.drew.two.1, xt.drew.two.2.1⟩ (fun hS => ?_)
    (refine tk 0 hS ?_; (try simp only [Act.put, List.setIfInBounds_toArray, List.set_cons_zero, List.set_cons_succ]))
    (refine tk 1 hS ?_; (try simp only [Act.put, List.setIfInBounds_toArray, List.set_cons_zero, List.set_cons_succ]))
    (refine tk 2 hS ?_; (try simp only [Act.put, List.setIfInBounds_toArray, List.set_cons_zero, List.set_cons_succ]))
    (refine tk 3 hS ?_; (try simp only [Act.put, List.setIfInBounds_toArray, List.set_cons_zero, List.set_cons_succ]))
    refine on 4 ?_
    refine callH (by go_simp; (first | done | with_reducible rfl | exact ⟨rfl, rfl⟩)) ?_
    go_at_call 27
    refine (iInputLabels_L tI0 tI1 (RdL.b yH) yL0n).mono ?_
    rintro e w4 ⟨lA, ln, lc, rfl, rl, b4⟩
    clear hS
    have z4 := Below.size b4
    (try simp only [World.size_alloc, World.size_setCell, size_drew] at z4)
    have B4 : Below w.heap.size w w4 := Below.t b4
    have rp_ := (rp.drew.below b4)
    clear rp; have rp := rp_; clear rp_
    have xc_ : Box w4 (w.heap.size) #[(.slice cA0 cn0 cc0), (.slice cA1 cn1 cc1)] 27 := (Box.b xc.drew b4)
    clear xc; have xc := xc_; clear xc_
    have xt_ : Box w4 (w.heap.size + 1) #[.int .i64 tI0, .int .i64 tI1] 29 := (Box.b xt.drew b4)
    clear xt; have xt := xt_; clear xt_
    have xp_ : Box w4 (w1.heap.size) #[.int .i64 (garD cL0 cL1 tI0 tI1), .slice pA1 pn1 pc1, .slice pA2 pn2 pc2] 33 := (Box.b xp.drew b4)
    clear xp; have xp := xp_; clear xp_
    have xq_ : Box w4 (w2.heap.size) #[.slice qA0 qn0 qc0, .slice qA1 qn1 qc1, .slice qA2 qn2 qc2] 37 := (Box.b xq.drew b4)
    clear xq; have xq := xq_; clear xq_
    (try simp only [World.size_alloc, World.size_setCell, size_drew] at rl)
    refine ⟨_, rfl, ⟨xc.two.1, xc.two.2.1, xq.three.1, xq.three.2.1, xq.three.2.2.1, xt.two.1, xt.two.2.1⟩, fun hS => ?_⟩
    (try simp only [Act.put, List.setIfInBounds_toArray, List.set_cons_zero, List.set_cons_succ])
    refine on 5 ?_
    refine callH (by go_simp; (first | done | with_reducible rfl | exact ⟨rfl, rfl⟩)) ?_
    go_at_call 26
    refine (iEvalGarbled_L (RdL.b cH) cL0n cL1n rp.rd hP0 hP1 hP2 rl.rd hLn).mono ?_
    rintro e w5 ⟨vA, vn, vc, rfl, rv, b5⟩
    clear hS
    have z5 := Below.size b5
    (try simp only [World.size_alloc, World.size_setCell, size_drew] at z5)
    have B5 : Below w.heap.size w w5 := Below.t b5
    have rp_ := (rp.below b5)
    clear rp; have rp := rp_; clear rp_
    have rl_ := (rl.below b5)
    clear rl; have rl := rl_; clear rl_
    have xc_ : Box w5 (w.heap.size) #[(.slice cA0 cn0 cc0), (.slice cA1 cn1 cc1)] 27 := (Box.b xc b5)
    clear xc; have xc := xc_; clear xc_
    have xt_ : Box w5 (w.heap.size + 1) #[.int .i64 tI0, .int .i64 tI1] 29 := (Box.b xt b5)
    clear xt; have xt := xt_; clear xt_
    have xp_ : Box w5 (w1.heap.size) #[.int .i64 (garD cL0 cL1 tI0 tI1), .slice pA1 pn1 pc1, .slice pA2 pn2 pc2] 33 := (Box.b xp b5)
    clear xp; have xp := xp_; clear xp_
    have xq_ : Box w5 (w2.heap.size) #[.slice qA0 qn0 qc0, .slice qA1 qn1 qc1, .slice qA2 qn2 qc2] 37 := (Box.b xq b5)
    clear xq; have xq := xq_; clear xq_
    (try simp only [World.size_alloc, World.size_setCell, size_drew] at rv)
    refine ⟨_, rfl, ⟨xc.two.1, xc.two.2.1, xq.three.1, xq.three.2.1, xq.three.2.2.1, xt.two.1, xt.two.2.1⟩, fun hS => ?_⟩
    (try simp only [Act.put, List.setIfInBounds_toArray, List.set_cons_zero, List.set_cons_succ])
    (refine tk 6 hS ?_; (try simp only [Act.put, List.setIfInBounds_toArray, List.set_cons_zero, List.set_cons_succ]))
    (refine tk 7 hS ?_; (try simp only [Act.put, List.setIfInBounds_toArray, List.set_cons_zero, List.set_cons_succ]))
    (refine tk 8 hS ?_; (try simp only [Act.put, List.setIfInBounds_toArray, List.set_cons_zero, List.set_cons_succ]))
    (refine tk 9 hS ?_; (try simp only [Act.put, List.setIfInBounds_toArray, List.set_cons_zero, List.set_cons_succ]))
    (refine tk 10 hS ?_; (try simp only [Act.put, List.setIfInBounds_toArray, List.set_cons_zero, List.set_cons_succ]))
    clear hS
    refine wpAnyH_done (by kernel_rfl) ?_ _
    obtain ⟨cxc_0, cxc_1, fxc_0, fxc_1⟩ := xc.two
    have l_xc_0 : w.heap.size < w5.heap.size := by omega
    obtain ⟨cxq_0, cxq_1, cxq_2, fxq_0, fxq_1, fxq_2⟩ := xq.three
    have l_xq_0 : w2.heap.size < w5.heap.size := by omega
    go_wp2_with fail
    refine (iDecodeOutputs_L (RdL.b cH) cL0n cL1n rp.rd hP0 hP1 hP2 rv.rd hEn).mono ?_
    rintro e w6 ⟨oA, o1, o2, rfl, ro, b6⟩
    clear cxc_0 cxc_1 fxc_0 fxc_1 l_xc_0 cxq_0 cxq_1 cxq_2 fxq_0 fxq_1 fxq_2 l_xq_0
    have z6 := b6.size
    try simp only [World.size_alloc, World.size_setCell, size_drew] at z6
    have B6 : Below w.heap.size w w6 := Below.t b6
    have rp_ := rp.below b6
    clear rp; have rp := rp_; clear rp_
    have rl_ := rl.below b6
    clear rl; have rl := rl_; clear rl_
    have rv_ := rv.below b6
    clear rv; have rv := rv_; clear rv_
    have xc_ : Box w6 (w.heap.size) #[(.slice cA0 cn0 cc0), (.slice cA1 cn1 cc1)] 27 := xc.below b6 (by first | omega | (simp [size_drew]; done) | (simp [size_drew]; omega))
    clear xc; have xc := xc_; clear xc_
    have xt_ : Box w6 (w.heap.size + 1) #[.int .i64 tI0, .int .i64 tI1] 29 := xt.below b6 (by first | omega | (simp [size_drew]; done) | (simp [size_drew]; omega))
    clear xt; have xt := xt_; clear xt_
    have xp_ : Box w6 (w1.heap.size) #[.int .i64 (garD cL0 cL1 tI0 tI1), .slice pA1 pn1 pc1, .slice pA2 pn2 pc2] 33 := xp.below b6 (by first | omega | (simp [size_drew]; done) | (simp [size_drew]; omega))
    clear xp; have xp := xp_; clear xp_
    have xq_ : Box w6 (w2.heap.size) #[.slice qA0 qn0 qc0, .slice qA1 qn1 qc1, .slice qA2 qn2 qc2] 37 := xq.below b6 (by first | omega | (simp [size_drew]; done) | (simp [size_drew]; omega))
    clear xq; have xq := xq_; clear xq_
    try simp only [World.size_alloc, World.size_setCell, size_drew] at ro
    have hD : Hid (decOk cL0 cL1 (puT cL0 cL1 (garD cL0 cL1 tI0 tI1) (garZ cL0 cL1 tI0 tI1) (garT cL0 cL1 tI0 tI1)) (puC cL0 cL1 (garD cL0 cL1 tI0 tI1) (garZ cL0 cL1 tI0 tI1) (garT cL0 cL1 tI0 tI1)) (puD cL0 cL1 (garD cL0 cL1 tI0 tI1) (garZ cL0 cL1 tI0 tI1) (garT cL0 cL1 tI0 tI1)) (evL cL0 cL1 (puT cL0 cL1 (garD cL0 cL1 tI0 tI1) (garZ cL0 cL1 tI0 tI1) (garT cL0 cL1 tI0 tI1)) (puC cL0 cL1 (garD cL0 cL1 tI0 tI1) (garZ cL0 cL1 tI0 tI1) (garT cL0 cL1 tI0 tI1)) (puD cL0 cL1 (garD cL0 cL1 tI0 tI1) (garZ cL0 cL1 tI0 tI1) (garT cL0 cL1 tI0 tI1)) (inLab tI0 tI1 yL0)) = true) := rg_dec HO2.out
    rw [hD.out]
    obtain ⟨cxc_0, cxc_1, fxc_0, fxc_1⟩ := xc.two
    have l_xc_0 : w.heap.size < w6.heap.size := by omega
    go_wp2
    refine bodyPost_ret (v := .tuple #[.slice oA o1 o2, .bool true]) (by simp [results, go_sem, Try.results78]) rfl ⟨_, _, _, by rw [HO2.out], ?_, ?_⟩
    ·rw [rgL_yes HO2.out]; exact OwnL.mono ro (by omega) (by first | omega | (simp [size_drew]; done) | (simp [size_drew]; omega)) (Nat.le_refl _)
    ·repeat (with_reducible (first | assumption | exact Below.refl _ _ | refine Below.alloc ?_ (by first | omega | (simp; done) | (simp; omega)) _ | refine Below.setCell ?_ (by first | omega | (simp; done) | (simp; omega)) _ | refine Below.drew ?_ | refine below_drewN ?_ _))
end Go.Proofs.Ytodnahpegecpiaa

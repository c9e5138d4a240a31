/- Contracts of AuthNew. Printed by mac2.py. -/
import Derived.Test.YtllnnbmgdbinnaaRegB
import Derived.Test.YtllnnbmgdbinnaaMacMath
import Derived.Test.YtllnnbmgdbinnaaMac2
namespace Go.Proofs.Ytllnnbmgdbinnaa
set_option linter.unusedSimpArgs false
set_option linter.unusedVariables false
open Go.RowKit
section
variable {p x s a : Int} {al : List Int}
theorem nS_yes (h : nOk p al x s a = true) : nS p al x s a = shareL p x (tapeL s a p (nK al)) := by simp [nS, h]
theorem nM_yes (h : nOk p al x s a = true) : nM p al x s a = shareL p (fmul p x (fsum p al)) (tapeL s (tapeLN s a p (nK al)) p (nK al)) := by simp [nM, h]
theorem nT_yes (h : nOk p al x s a = true) : nT p al x s a = tapeLN s (tapeLN s a p (nK al)) p (nK al) := by simp [nT, h]
theorem nS_no (h : nOk p al x s a = false) : nS p al x s a = [] := by simp [nS, h]
theorem nM_no (h : nOk p al x s a = false) : nM p al x s a = [] := by simp [nM, h]
theorem nT_no (h : nOk p al x s a = false) : nT p al x s a = a := by simp [nT, h]
end
set_option maxRecDepth 100000 in
set_option maxHeartbeats 2000000 in
theorem ishared_L  {w : World} (pI0 : Int) (xI0 : Int) (nI0 : Int) (tI0 : Int) (tI1 : Int) (hn : 1 ≤ nI0 ∧ nI0 ≤ 5) :
    Calls Try.prog 100 #[.int .i64 pI0, .int .i64 xI0, .int .i64 nI0, .agg #[.int .i64 tI0, .int .i64 tI1]] w fun e w' => ∃ rA0 rn0 rc0, e = .returned (.tuple #[.slice rA0 rn0 rc0, .agg #[.int .i64 tI0, .int .i64 (tapeLN tI0 tI1 pI0 (nI0 - 1))]]) ∧ OwnL w' w.heap.size w'.heap.size [(.slice rA0 rn0 rc0, .ints (shareL pI0 xI0 (tapeL tI0 tI1 pI0 (nI0 - 1))))] ∧ Below w.heap.size w w' := by
  obtain ⟨hn1, hn2⟩ := hn
  go_enter Try.func100, Try.ntmps100
  go_wp2_with fail
  refine (iTapeList_L tI0 tI1 pI0 (nI0 - 1)).mono ?_
  rintro e w1 ⟨pA, pn, pc, rfl, r0, b1⟩
  have z1 := b1.size
  try simp only [World.size_alloc, World.size_setCell, size_drew] at z1
  have B1 : Below w.heap.size w w1 := Below.t b1
  have xt_ : Box w1 (w.heap.size) #[.int .i64 tI0, .int .i64 tI1] 40 := ((Box.new (g := w.heap.size) _ #[.int .i64 tI0, .int .i64 tI1] 40 (by simp)).alloc _).below b1 (by first | omega | (simp [size_drew]; done) | (simp [size_drew]; omega))
  have xt := xt_; clear xt_
  have xq_ : Box w1 (w.heap.size + 1) #[.int .i64 0, .int .i64 0] 40 := (Box.new (g := w.heap.size + 1) _ #[.int .i64 0, .int .i64 0] 40 (by simp)).below b1 (by first | omega | (simp [size_drew]; done) | (simp [size_drew]; omega))
  have xq := xq_; clear xq_
  try simp only [World.size_alloc, World.size_setCell, size_drew] at r0
  have pl := (Rd.toInts (r0.rd (.slice pA pn pc, .ints (tapeL tI0 tI1 pI0 (nI0 - 1))) (by simp))).len
  have pm : pn ≤ 1000 := by rw [← pl]; exact tapeL_len _ _ _ _
  have ph := Lib.hid pl; clear pl
  go_wp2_with fail
  generalize hw2 : World.alloc _ _ = w2
  have z2 : w1.heap.size + 1 ≤ w2.heap.size := by rw [← hw2]; simp
  have B2 : Below w.heap.size w w2 := by rw [← hw2]; repeat (with_reducible (first | assumption | exact Below.refl _ _ | refine Below.alloc ?_ (by first | omega | (simp; done) | (simp; omega)) _ | refine Below.setCell ?_ (by first | omega | (simp; done) | (simp; omega)) _ | refine Below.drew ?_ | refine below_drewN ?_ _))
  have hK : ∀ k, k < w1.heap.size → w2.heap[k]? = w1.heap[k]? := by
    intro k hk; rw [← hw2]
    repeat (first | rfl | refine (Below.heap_alloc _ _ _ (by first | omega | (simp; omega))).trans ?_)
  have r0_ := r0.keepBlock (w' := w2) (by omega) (fun k h1 h2 => hK k  (by have := r0.2.1; omega))
  clear r0; have r0 := r0_; clear r0_
  have xt_ : Box w2 (w.heap.size) #[.int .i64 tI0, .int .i64 tI1] 40 := (by rw [← hw2]; exact (xt.alloc _))
  clear xt; have xt := xt_; clear xt_
  have xq_ : Box w2 (w.heap.size + 1) #[.int .i64 0, .int .i64 0] 40 := (by rw [← hw2]; exact (xq.alloc _))
  clear xq; have xq := xq_; clear xq_
  have xn_ : Box w2 (w1.heap.size) #[.int .i64 tI0, .int .i64 (tapeLN tI0 tI1 pI0 (nI0 - 1))] 40 := (by rw [← hw2]; exact (Box.new (g := w1.heap.size) _ #[.int .i64 tI0, .int .i64 (tapeLN tI0 tI1 pI0 (nI0 - 1))] 40 (by simp)))
  have xn := xn_; clear xn_
  clear hw2 hK
  refine wp_region_held_drew (S := fun W => W.cell? ⟨w1.heap.size, 0, none⟩ = some (.int .i64 tI0) ∧ W.cell? ⟨w1.heap.size, 1, none⟩ = some (.int .i64 (tapeLN tI0 tI1 pI0 (nI0 - 1)))) (by kernel_rfl) ⟨xn.drew.two.1, xn.drew.two.2.1⟩ (fun hS => ?_)
  (refine tk 0 hS ?_; (try simp only [Act.put, layA, layB, layC]))
  (refine tk 1 hS ?_; (try simp only [Act.put, layA, layB, layC]))
  (refine tk 2 hS ?_; (try simp only [Act.put, layA, layB, layC]))
  (refine tk 3 hS ?_; (try simp only [Act.put, layA, layB, layC]))
  (refine tk 4 hS ?_; (try simp only [Act.put, layA, layB, layC]))
  (refine tk 9 hS ?_; (try simp only [Act.put, layA, layB, layC]))
  refine on 5 ?_
  refine callH (by go_simp; (first | done | with_reducible rfl | exact ⟨rfl, rfl⟩)) ?_
  go_at_call 102
  refine (iFSum_any _ _ _ _ _ _ (Rd.toInts ((r0.drew).rd (.slice pA pn pc, .ints (tapeL tI0 tI1 pI0 (nI0 - 1))) (by simp))) (by omega)).mono ?_
  rintro e w_ ⟨rfl, rfl⟩
  refine ⟨_, rfl, hS, fun hS => ?_⟩
  (try simp only [Act.put, layA, layB, layC])
  refine on 6 ?_
  refine callH (by go_simp; (first | done | with_reducible rfl | exact ⟨rfl, rfl⟩)) ?_
  go_at_call 122
  refine (iFSub_any _ _ _ _).mono ?_
  rintro e w3 ⟨rfl, b3⟩
  clear hS
  have z3 := Below.size b3
  (try simp only [World.size_alloc, World.size_setCell, size_drew] at z3)
  have B3 : Below w.heap.size w w3 := Below.t b3
  have r0_ := (r0.drew.below b3)
  clear r0; have r0 := r0_; clear r0_
  have xt_ : Box w3 (w.heap.size) #[.int .i64 tI0, .int .i64 tI1] 40 := (Box.b xt.drew b3)
  clear xt; have xt := xt_; clear xt_
  have xq_ : Box w3 (w.heap.size + 1) #[.int .i64 0, .int .i64 0] 40 := (Box.b xq.drew b3)
  clear xq; have xq := xq_; clear xq_
  have xn_ : Box w3 (w1.heap.size) #[.int .i64 tI0, .int .i64 (tapeLN tI0 tI1 pI0 (nI0 - 1))] 40 := (Box.b xn.drew b3)
  clear xn; have xn := xn_; clear xn_
  refine ⟨_, rfl, ⟨xn.two.1, xn.two.2.1⟩, fun hS => ?_⟩
  (try simp only [Act.put, layA, layB, layC])
  refine on 7 ?_
  refine valueH (by go_simp; (first | done | with_reducible rfl | exact ⟨rfl, rfl⟩)) ?_ (fun hS_ => ?_)
  · exact ⟨(xn.alloc _).two.1, (xn.alloc _).two.2.1⟩
  clear hS
  have hS := hS_
  clear hS_
  (try simp only [Act.put, layA, layB, layC])
  refine on 8 ?_
  refine appendH_L (.tmp 20) (.tmp 27) rfl rfl ((r0.alloc _)) rfl (Ints.new (g := w3.heap.size) _ [fsub pI0 xI0 (fsum pI0 (tapeL tI0 tI1 pI0 (nI0 - 1)))] 3 (by simp) rfl) (by have := ph.out; omega) ?_
  intro qA qn qc qlo qhi w4 r0_ dr0 c4
  have z4 := c4.size
  (try simp only [World.size_alloc, World.size_setCell, size_drew] at z4 dr0)
  have B4 : Below w.heap.size w w4 := Below.trans (b := _) (by repeat (with_reducible (first | assumption | exact Below.refl _ _ | refine Below.alloc ?_ (by first | omega | (simp; done) | (simp; omega)) _ | refine Below.setCell ?_ (by first | omega | (simp; done) | (simp; omega)) _ | refine Below.drew ?_ | refine below_drewN ?_ _))) (c4.below (by omega) (by first | omega | (simp [size_drew]; done) | (simp [size_drew]; omega)))
  clear r0; have r0 := r0_; clear r0_
  have xt_ : Box w4 (w.heap.size) #[.int .i64 tI0, .int .i64 tI1] 40 := ((xt.alloc _)).chg c4 (by omega)
  clear xt; have xt := xt_; clear xt_
  have xq_ : Box w4 (w.heap.size + 1) #[.int .i64 0, .int .i64 0] 40 := ((xq.alloc _)).chg c4 (by omega)
  clear xq; have xq := xq_; clear xq_
  have xn_ : Box w4 (w1.heap.size) #[.int .i64 tI0, .int .i64 (tapeLN tI0 tI1 pI0 (nI0 - 1))] 40 := ((xn.alloc _)).chg c4 (by omega)
  clear xn; have xn := xn_; clear xn_
  have xlit_ : Box w4 (w3.heap.size) #[.int .i64 (fsub pI0 xI0 (fsum pI0 (tapeL tI0 tI1 pI0 (nI0 - 1))))] 3 := ((Box.new (g := w3.heap.size) _ #[.int .i64 (fsub pI0 xI0 (fsum pI0 (tapeL tI0 tI1 pI0 (nI0 - 1))))] 3 (by simp))).chg c4 (by omega)
  have xlit := xlit_; clear xlit_
  refine ⟨⟨xn.two.1, xn.two.2.1⟩, fun hS_ => ?_⟩
  clear hS; have hS := hS_; clear hS_
  (try simp only [Act.put, layA, layB, layC])
  (refine tk 10 hS ?_; (try simp only [Act.put, layA, layB, layC]))
  refine on 11 ?_
  obtain ⟨cxq_0, cxq_1, fxq_0, fxq_1⟩ := xq.two
  refine skipH (by go_simp; (first | done | with_reducible rfl | exact ⟨rfl, rfl⟩)) ?_ (fun hS_ => ?_)
  · exact ⟨((xn.far (by omega)).far (by omega)).two.1, ((xn.far (by omega)).far (by omega)).two.2.1⟩
  clear cxq_0 cxq_1 fxq_0 fxq_1
  clear hS
  have hS := hS_
  clear hS_
  (try simp only [Act.put, layA, layB, layC])
  clear hS
  refine wpAnyH_done (by kernel_rfl) ?_ _
  obtain ⟨cxq_0, cxq_1, fxq_0, fxq_1⟩ := xq.two
  have l_xq_0 : w.heap.size + 1 < w4.heap.size := by omega
  go_wp2
  refine bodyPost_ret (v := .tuple #[.slice qA qn qc, .agg #[.int .i64 tI0, .int .i64 (tapeLN tI0 tI1 pI0 (nI0 - 1))]]) ?_ rfl ⟨qA, qn, qc, rfl, ?_, ?_⟩
  · simp [results, Try.results100, go_sem, cxq_0, cxq_1, fxq_0, fxq_1, l_xq_0]
  · have R := r0
    exact OwnL.mono ((R.setBox (by omega)).setBox (by omega)) (by omega) (by first | omega | (simp [size_drew]; done) | (simp [size_drew]; omega)) (Nat.le_refl _)
  · repeat (with_reducible (first | assumption | exact Below.refl _ _ | refine Below.alloc ?_ (by first | omega | (simp; done) | (simp; omega)) _ | refine Below.setCell ?_ (by first | omega | (simp; done) | (simp; omega)) _ | refine Below.drew ?_ | refine below_drewN ?_ _))
set_option maxRecDepth 100000 in
set_option maxHeartbeats 2000000 in
theorem sAuthNew_L {kA1 : Option Addr} {kn1 kc1 : Nat} {kL1 : List Int} {w : World} (kI0 : Int) (kH : RdL w [((.slice kA1 kn1 kc1), .ints kL1)]) (kL1n : kL1.length ≤ 1048576) (xI0 : Int) (tI0 : Int) (tI1 : Int) :
    Calls Try.prog 78 #[.agg #[.int .i64 kI0, (.slice kA1 kn1 kc1)], .int .i64 xI0, .agg #[.int .i64 tI0, .int .i64 tI1]] w fun e w' => ∃ rA0 rn0 rc0 rA1 rn1 rc1, e = .returned (.tuple #[.agg #[.slice rA0 rn0 rc0, .slice rA1 rn1 rc1], .agg #[.int .i64 tI0, .int .i64 (nT kI0 kL1 xI0 tI0 tI1)]]) ∧ OwnL w' w.heap.size w'.heap.size [(.slice rA0 rn0 rc0, .ints (nS kI0 kL1 xI0 tI0 tI1)), (.slice rA1 rn1 rc1, .ints (nM kI0 kL1 xI0 tI0 tI1))] ∧ Below w.heap.size w w' := by
  have kL1i : Ints w kA1 kn1 kL1 := Rd.toInts (kH ((.slice kA1 kn1 kc1), .ints kL1) (by simp))
  have kL1l := Lib.hid kL1i.len
  have kL1m : kn1 ≤ 1048576 := by rw [← kL1l.out]; exact kL1n
  cases k1 : keysOk kI0 kL1 with
  | false =>
    have HO : Hid (nOk kI0 kL1 xI0 tI0 tI1 = false) := by show _ = _; simp [nOk, k1]
    go_enter Try.func78, Try.ntmps78
    go_wp2_with fail
    refine (sKeysOk_L kI0 (RdL.b kH) kL1n).mono ?_
    rintro e w1 ⟨rfl, b1⟩
    have z1 := b1.size
    try simp only [World.size_alloc, World.size_setCell, size_drew] at z1
    have B1 : Below w.heap.size w w1 := Below.t b1
    have xk_ : Box w1 (w.heap.size) #[.int .i64 kI0, (.slice kA1 kn1 kc1)] 33 := ((((Box.new (g := w.heap.size) _ #[.int .i64 kI0, (.slice kA1 kn1 kc1)] 33 (by simp)).alloc _).alloc _).alloc _).below b1 (by first | omega | (simp [size_drew]; done) | (simp [size_drew]; omega))
    have xk := xk_; clear xk_
    have xt_ : Box w1 (w.heap.size + 1) #[.int .i64 tI0, .int .i64 tI1] 40 := (((Box.new (g := w.heap.size + 1) _ #[.int .i64 tI0, .int .i64 tI1] 40 (by simp)).alloc _).alloc _).below b1 (by first | omega | (simp [size_drew]; done) | (simp [size_drew]; omega))
    have xt := xt_; clear xt_
    have xr_ : Box w1 (w.heap.size + 1 + 1) #[.slice none 0 0, .slice none 0 0] 38 := ((Box.new (g := w.heap.size + 1 + 1) _ #[.slice none 0 0, .slice none 0 0] 38 (by simp)).alloc _).below b1 (by first | omega | (simp [size_drew]; done) | (simp [size_drew]; omega))
    have xr := xr_; clear xr_
    have xq_ : Box w1 (w.heap.size + 1 + 1 + 1) #[.int .i64 0, .int .i64 0] 40 := (Box.new (g := w.heap.size + 1 + 1 + 1) _ #[.int .i64 0, .int .i64 0] 40 (by simp)).below b1 (by first | omega | (simp [size_drew]; done) | (simp [size_drew]; omega))
    have xq := xq_; clear xq_
    obtain ⟨cxt_0, cxt_1, fxt_0, fxt_1⟩ := xt.two
    have l_xt_0 : w.heap.size + 1 < w1.heap.size := by omega
    go_wp2_with fail
    clear cxt_0 cxt_1 fxt_0 fxt_1 l_xt_0
    refine wp_region_held_drew (S := fun W => W.cell? ⟨w.heap.size + 1, 0, none⟩ = some (.int .i64 tI0) ∧ W.cell? ⟨w.heap.size + 1, 1, none⟩ = some (.int .i64 tI1)) (by kernel_rfl) ⟨xt.drew.two.1, xt.drew.two.2.1⟩ (fun hS => ?_)
    (refine tk 0 hS ?_; (try simp only [Act.put, layA, layB, layC]))
    (refine tk 1 hS ?_; (try simp only [Act.put, layA, layB, layC]))
    refine on 2 ?_
    obtain ⟨cxr_0, cxr_1, fxr_0, fxr_1⟩ := xr.two
    refine skipH (by go_simp; (first | done | with_reducible rfl | exact ⟨rfl, rfl⟩)) ?_ (fun hS_ => ?_)
    · exact ⟨((xt.far (by omega)).far (by omega)).drew.two.1, ((xt.far (by omega)).far (by omega)).drew.two.2.1⟩
    clear cxr_0 cxr_1 fxr_0 fxr_1
    clear hS
    have hS := hS_
    clear hS_
    (try simp only [Act.put, layA, layB, layC])
    refine on 3 ?_
    obtain ⟨cxq_0, cxq_1, fxq_0, fxq_1⟩ := xq.two
    refine skipH (by go_simp; (first | done | with_reducible rfl | exact ⟨rfl, rfl⟩)) ?_ (fun hS_ => ?_)
    · exact ⟨((((xt.far (by omega)).far (by omega)).far (by omega)).far (by omega)).drew.two.1, ((((xt.far (by omega)).far (by omega)).far (by omega)).far (by omega)).drew.two.2.1⟩
    clear cxq_0 cxq_1 fxq_0 fxq_1
    clear hS
    have hS := hS_
    clear hS_
    (try simp only [Act.put, layA, layB, layC])
    clear hS
    refine wpAnyH_done (by kernel_rfl) ?_ _
    obtain ⟨cxr_0, cxr_1, fxr_0, fxr_1⟩ := xr.two
    have l_xr_0 : w.heap.size + 1 + 1 < w1.heap.size := by omega
    obtain ⟨cxq_0, cxq_1, fxq_0, fxq_1⟩ := xq.two
    have l_xq_0 : w.heap.size + 1 + 1 + 1 < w1.heap.size := by omega
    go_wp2
    refine bodyPost_ret (v := .tuple #[.agg #[.slice none 0 0, .slice none 0 0], .agg #[.int .i64 tI0, .int .i64 tI1]]) ?_ rfl ⟨none, 0, 0, none, 0, 0, by rw [nT_no HO.out], ?_, ?_⟩
    · simp [results, Try.results78, go_sem, cxr_0, cxr_1, fxr_0, fxr_1, l_xr_0, cxq_0, cxq_1, fxq_0, fxq_1, l_xq_0]
    · rw [nS_no HO.out, nM_no HO.out]; exact OwnL.nones _ (by simp) (by first | omega | (simp [size_drew]; done) | (simp [size_drew]; omega))
    · repeat (with_reducible (first | assumption | exact Below.refl _ _ | refine Below.alloc ?_ (by first | omega | (simp; done) | (simp; omega)) _ | refine Below.setCell ?_ (by first | omega | (simp; done) | (simp; omega)) _ | refine Below.drew ?_ | refine below_drewN ?_ _))
  | true =>
    cases k2 : elem kI0 xI0 with
    | false =>
      have HO : Hid (nOk kI0 kL1 xI0 tI0 tI1 = false) := by show _ = _; simp [nOk, k1, k2]
      go_enter Try.func78, Try.ntmps78
      go_wp2_with fail
      refine (sKeysOk_L kI0 (RdL.b kH) kL1n).mono ?_
      rintro e w1 ⟨rfl, b1⟩
      have z1 := b1.size
      try simp only [World.size_alloc, World.size_setCell, size_drew] at z1
      have B1 : Below w.heap.size w w1 := Below.t b1
      have xk_ : Box w1 (w.heap.size) #[.int .i64 kI0, (.slice kA1 kn1 kc1)] 33 := ((((Box.new (g := w.heap.size) _ #[.int .i64 kI0, (.slice kA1 kn1 kc1)] 33 (by simp)).alloc _).alloc _).alloc _).below b1 (by first | omega | (simp [size_drew]; done) | (simp [size_drew]; omega))
      have xk := xk_; clear xk_
      have xt_ : Box w1 (w.heap.size + 1) #[.int .i64 tI0, .int .i64 tI1] 40 := (((Box.new (g := w.heap.size + 1) _ #[.int .i64 tI0, .int .i64 tI1] 40 (by simp)).alloc _).alloc _).below b1 (by first | omega | (simp [size_drew]; done) | (simp [size_drew]; omega))
      have xt := xt_; clear xt_
      have xr_ : Box w1 (w.heap.size + 1 + 1) #[.slice none 0 0, .slice none 0 0] 38 := ((Box.new (g := w.heap.size + 1 + 1) _ #[.slice none 0 0, .slice none 0 0] 38 (by simp)).alloc _).below b1 (by first | omega | (simp [size_drew]; done) | (simp [size_drew]; omega))
      have xr := xr_; clear xr_
      have xq_ : Box w1 (w.heap.size + 1 + 1 + 1) #[.int .i64 0, .int .i64 0] 40 := (Box.new (g := w.heap.size + 1 + 1 + 1) _ #[.int .i64 0, .int .i64 0] 40 (by simp)).below b1 (by first | omega | (simp [size_drew]; done) | (simp [size_drew]; omega))
      have xq := xq_; clear xq_
      obtain ⟨cxk_0, cxk_1, fxk_0, fxk_1⟩ := xk.two
      have l_xk_0 : w.heap.size < w1.heap.size := by omega
      go_wp2_with fail
      clear cxk_0 cxk_1 fxk_0 fxk_1 l_xk_0
      refine (sIsElement_any _ _ _).mono ?_
      rintro e w_ ⟨rfl, rfl⟩
      obtain ⟨cxt_0, cxt_1, fxt_0, fxt_1⟩ := xt.two
      have l_xt_0 : w.heap.size + 1 < w1.heap.size := by omega
      go_wp2_with fail
      clear cxt_0 cxt_1 fxt_0 fxt_1 l_xt_0
      refine wp_region_held_drew (S := fun W => W.cell? ⟨w.heap.size + 1, 0, none⟩ = some (.int .i64 tI0) ∧ W.cell? ⟨w.heap.size + 1, 1, none⟩ = some (.int .i64 tI1)) (by kernel_rfl) ⟨xt.drew.two.1, xt.drew.two.2.1⟩ (fun hS => ?_)
      (refine tk 0 hS ?_; (try simp only [Act.put, layA, layB, layC]))
      (refine tk 1 hS ?_; (try simp only [Act.put, layA, layB, layC]))
      refine on 2 ?_
      obtain ⟨cxr_0, cxr_1, fxr_0, fxr_1⟩ := xr.two
      refine skipH (by go_simp; (first | done | with_reducible rfl | exact ⟨rfl, rfl⟩)) ?_ (fun hS_ => ?_)
      · exact ⟨((xt.far (by omega)).far (by omega)).drew.two.1, ((xt.far (by omega)).far (by omega)).drew.two.2.1⟩
      clear cxr_0 cxr_1 fxr_0 fxr_1
      clear hS
      have hS := hS_
      clear hS_
      (try simp only [Act.put, layA, layB, layC])
      refine on 3 ?_
      obtain ⟨cxq_0, cxq_1, fxq_0, fxq_1⟩ := xq.two
      refine skipH (by go_simp; (first | done | with_reducible rfl | exact ⟨rfl, rfl⟩)) ?_ (fun hS_ => ?_)
      · exact ⟨((((xt.far (by omega)).far (by omega)).far (by omega)).far (by omega)).drew.two.1, ((((xt.far (by omega)).far (by omega)).far (by omega)).far (by omega)).drew.two.2.1⟩
      clear cxq_0 cxq_1 fxq_0 fxq_1
      clear hS
      have hS := hS_
      clear hS_
      (try simp only [Act.put, layA, layB, layC])
      clear hS
      refine wpAnyH_done (by kernel_rfl) ?_ _
      obtain ⟨cxr_0, cxr_1, fxr_0, fxr_1⟩ := xr.two
      have l_xr_0 : w.heap.size + 1 + 1 < w1.heap.size := by omega
      obtain ⟨cxq_0, cxq_1, fxq_0, fxq_1⟩ := xq.two
      have l_xq_0 : w.heap.size + 1 + 1 + 1 < w1.heap.size := by omega
      go_wp2
      refine bodyPost_ret (v := .tuple #[.agg #[.slice none 0 0, .slice none 0 0], .agg #[.int .i64 tI0, .int .i64 tI1]]) ?_ rfl ⟨none, 0, 0, none, 0, 0, by rw [nT_no HO.out], ?_, ?_⟩
      · simp [results, Try.results78, go_sem, cxr_0, cxr_1, fxr_0, fxr_1, l_xr_0, cxq_0, cxq_1, fxq_0, fxq_1, l_xq_0]
      · rw [nS_no HO.out, nM_no HO.out]; exact OwnL.nones _ (by simp) (by first | omega | (simp [size_drew]; done) | (simp [size_drew]; omega))
      · repeat (with_reducible (first | assumption | exact Below.refl _ _ | refine Below.alloc ?_ (by first | omega | (simp; done) | (simp; omega)) _ | refine Below.setCell ?_ (by first | omega | (simp; done) | (simp; omega)) _ | refine Below.drew ?_ | refine below_drewN ?_ _))
    | true =>
      cases k3 : t9 tI0 tI1 with
      | false =>
        have HO : Hid (nOk kI0 kL1 xI0 tI0 tI1 = false) := by show _ = _; simp [nOk, k1, k2, k3]
        have k3' : (tapeOk tI0 tI1 && decide (tI1 ≤ 900000)) = false := k3
        go_enter Try.func78, Try.ntmps78
        go_wp2_with fail
        refine (sKeysOk_L kI0 (RdL.b kH) kL1n).mono ?_
        rintro e w1 ⟨rfl, b1⟩
        have z1 := b1.size
        try simp only [World.size_alloc, World.size_setCell, size_drew] at z1
        have B1 : Below w.heap.size w w1 := Below.t b1
        have xk_ : Box w1 (w.heap.size) #[.int .i64 kI0, (.slice kA1 kn1 kc1)] 33 := ((((Box.new (g := w.heap.size) _ #[.int .i64 kI0, (.slice kA1 kn1 kc1)] 33 (by simp)).alloc _).alloc _).alloc _).below b1 (by first | omega | (simp [size_drew]; done) | (simp [size_drew]; omega))
        have xk := xk_; clear xk_
        have xt_ : Box w1 (w.heap.size + 1) #[.int .i64 tI0, .int .i64 tI1] 40 := (((Box.new (g := w.heap.size + 1) _ #[.int .i64 tI0, .int .i64 tI1] 40 (by simp)).alloc _).alloc _).below b1 (by first | omega | (simp [size_drew]; done) | (simp [size_drew]; omega))
        have xt := xt_; clear xt_
        have xr_ : Box w1 (w.heap.size + 1 + 1) #[.slice none 0 0, .slice none 0 0] 38 := ((Box.new (g := w.heap.size + 1 + 1) _ #[.slice none 0 0, .slice none 0 0] 38 (by simp)).alloc _).below b1 (by first | omega | (simp [size_drew]; done) | (simp [size_drew]; omega))
        have xr := xr_; clear xr_
        have xq_ : Box w1 (w.heap.size + 1 + 1 + 1) #[.int .i64 0, .int .i64 0] 40 := (Box.new (g := w.heap.size + 1 + 1 + 1) _ #[.int .i64 0, .int .i64 0] 40 (by simp)).below b1 (by first | omega | (simp [size_drew]; done) | (simp [size_drew]; omega))
        have xq := xq_; clear xq_
        obtain ⟨cxk_0, cxk_1, fxk_0, fxk_1⟩ := xk.two
        have l_xk_0 : w.heap.size < w1.heap.size := by omega
        go_wp2_with fail
        clear cxk_0 cxk_1 fxk_0 fxk_1 l_xk_0
        refine (sIsElement_any _ _ _).mono ?_
        rintro e w_ ⟨rfl, rfl⟩
        obtain ⟨cxt_0, cxt_1, fxt_0, fxt_1⟩ := xt.two
        have l_xt_0 : w.heap.size + 1 < w1.heap.size := by omega
        go_wp2_with fail
        refine (l06Tape_any tI0 tI1 _).mono ?_
        rintro e w2 ⟨rfl, b2⟩
        clear cxt_0 cxt_1 fxt_0 fxt_1 l_xt_0
        have z2 := b2.size
        try simp only [World.size_alloc, World.size_setCell, size_drew] at z2
        have B2 : Below w.heap.size w w2 := Below.t b2
        have xk_ : Box w2 (w.heap.size) #[.int .i64 kI0, (.slice kA1 kn1 kc1)] 33 := xk.below b2 (by first | omega | (simp [size_drew]; done) | (simp [size_drew]; omega))
        clear xk; have xk := xk_; clear xk_
        have xt_ : Box w2 (w.heap.size + 1) #[.int .i64 tI0, .int .i64 tI1] 40 := xt.below b2 (by first | omega | (simp [size_drew]; done) | (simp [size_drew]; omega))
        clear xt; have xt := xt_; clear xt_
        have xr_ : Box w2 (w.heap.size + 1 + 1) #[.slice none 0 0, .slice none 0 0] 38 := xr.below b2 (by first | omega | (simp [size_drew]; done) | (simp [size_drew]; omega))
        clear xr; have xr := xr_; clear xr_
        have xq_ : Box w2 (w.heap.size + 1 + 1 + 1) #[.int .i64 0, .int .i64 0] 40 := xq.below b2 (by first | omega | (simp [size_drew]; done) | (simp [size_drew]; omega))
        clear xq; have xq := xq_; clear xq_
        obtain ⟨cxt_0, cxt_1, fxt_0, fxt_1⟩ := xt.two
        have l_xt_0 : w.heap.size + 1 < w2.heap.size := by omega
        go_wp2_with fail
        clear cxt_0 cxt_1 fxt_0 fxt_1 l_xt_0
        refine wp_region_held_drew (S := fun W => W.cell? ⟨w.heap.size + 1, 0, none⟩ = some (.int .i64 tI0) ∧ W.cell? ⟨w.heap.size + 1, 1, none⟩ = some (.int .i64 tI1)) (by kernel_rfl) ⟨xt.drew.two.1, xt.drew.two.2.1⟩ (fun hS => ?_)
        (refine tk 0 hS ?_; (try simp only [Act.put, layA, layB, layC]))
        (refine tk 1 hS ?_; (try simp only [Act.put, layA, layB, layC]))
        refine on 2 ?_
        obtain ⟨cxr_0, cxr_1, fxr_0, fxr_1⟩ := xr.two
        refine skipH (by go_simp; (first | done | with_reducible rfl | exact ⟨rfl, rfl⟩)) ?_ (fun hS_ => ?_)
        · exact ⟨((xt.far (by omega)).far (by omega)).drew.two.1, ((xt.far (by omega)).far (by omega)).drew.two.2.1⟩
        clear cxr_0 cxr_1 fxr_0 fxr_1
        clear hS
        have hS := hS_
        clear hS_
        (try simp only [Act.put, layA, layB, layC])
        refine on 3 ?_
        obtain ⟨cxq_0, cxq_1, fxq_0, fxq_1⟩ := xq.two
        refine skipH (by go_simp; (first | done | with_reducible rfl | exact ⟨rfl, rfl⟩)) ?_ (fun hS_ => ?_)
        · exact ⟨((((xt.far (by omega)).far (by omega)).far (by omega)).far (by omega)).drew.two.1, ((((xt.far (by omega)).far (by omega)).far (by omega)).far (by omega)).drew.two.2.1⟩
        clear cxq_0 cxq_1 fxq_0 fxq_1
        clear hS
        have hS := hS_
        clear hS_
        (try simp only [Act.put, layA, layB, layC])
        clear hS
        refine wpAnyH_done (by kernel_rfl) ?_ _
        obtain ⟨cxr_0, cxr_1, fxr_0, fxr_1⟩ := xr.two
        have l_xr_0 : w.heap.size + 1 + 1 < w2.heap.size := by omega
        obtain ⟨cxq_0, cxq_1, fxq_0, fxq_1⟩ := xq.two
        have l_xq_0 : w.heap.size + 1 + 1 + 1 < w2.heap.size := by omega
        go_wp2
        refine bodyPost_ret (v := .tuple #[.agg #[.slice none 0 0, .slice none 0 0], .agg #[.int .i64 tI0, .int .i64 tI1]]) ?_ rfl ⟨none, 0, 0, none, 0, 0, by rw [nT_no HO.out], ?_, ?_⟩
        · simp [results, Try.results78, go_sem, cxr_0, cxr_1, fxr_0, fxr_1, l_xr_0, cxq_0, cxq_1, fxq_0, fxq_1, l_xq_0]
        · rw [nS_no HO.out, nM_no HO.out]; exact OwnL.nones _ (by simp) (by first | omega | (simp [size_drew]; done) | (simp [size_drew]; omega))
        · repeat (with_reducible (first | assumption | exact Below.refl _ _ | refine Below.alloc ?_ (by first | omega | (simp; done) | (simp; omega)) _ | refine Below.setCell ?_ (by first | omega | (simp; done) | (simp; omega)) _ | refine Below.drew ?_ | refine below_drewN ?_ _))
      | true =>
        have HO : Hid (nOk kI0 kL1 xI0 tI0 tI1 = true) := by show _ = _; simp [nOk, k1, k2, k3]
        have k3' : (tapeOk tI0 tI1 && decide (tI1 ≤ 900000)) = true := k3
        go_enter Try.func78, Try.ntmps78
        go_wp2_with fail
        refine (sKeysOk_L kI0 (RdL.b kH) kL1n).mono ?_
        rintro e w1 ⟨rfl, b1⟩
        have z1 := b1.size
        try simp only [World.size_alloc, World.size_setCell, size_drew] at z1
        have B1 : Below w.heap.size w w1 := Below.t b1
        have xk_ : Box w1 (w.heap.size) #[.int .i64 kI0, (.slice kA1 kn1 kc1)] 33 := ((((Box.new (g := w.heap.size) _ #[.int .i64 kI0, (.slice kA1 kn1 kc1)] 33 (by simp)).alloc _).alloc _).alloc _).below b1 (by first | omega | (simp [size_drew]; done) | (simp [size_drew]; omega))
        have xk := xk_; clear xk_
        have xt_ : Box w1 (w.heap.size + 1) #[.int .i64 tI0, .int .i64 tI1] 40 := (((Box.new (g := w.heap.size + 1) _ #[.int .i64 tI0, .int .i64 tI1] 40 (by simp)).alloc _).alloc _).below b1 (by first | omega | (simp [size_drew]; done) | (simp [size_drew]; omega))
        have xt := xt_; clear xt_
        have xr_ : Box w1 (w.heap.size + 1 + 1) #[.slice none 0 0, .slice none 0 0] 38 := ((Box.new (g := w.heap.size + 1 + 1) _ #[.slice none 0 0, .slice none 0 0] 38 (by simp)).alloc _).below b1 (by first | omega | (simp [size_drew]; done) | (simp [size_drew]; omega))
        have xr := xr_; clear xr_
        have xq_ : Box w1 (w.heap.size + 1 + 1 + 1) #[.int .i64 0, .int .i64 0] 40 := (Box.new (g := w.heap.size + 1 + 1 + 1) _ #[.int .i64 0, .int .i64 0] 40 (by simp)).below b1 (by first | omega | (simp [size_drew]; done) | (simp [size_drew]; omega))
        have xq := xq_; clear xq_
        obtain ⟨cxk_0, cxk_1, fxk_0, fxk_1⟩ := xk.two
        have l_xk_0 : w.heap.size < w1.heap.size := by omega
        go_wp2_with fail
        clear cxk_0 cxk_1 fxk_0 fxk_1 l_xk_0
        refine (sIsElement_any _ _ _).mono ?_
        rintro e w_ ⟨rfl, rfl⟩
        obtain ⟨cxt_0, cxt_1, fxt_0, fxt_1⟩ := xt.two
        have l_xt_0 : w.heap.size + 1 < w1.heap.size := by omega
        go_wp2_with fail
        refine (l06Tape_any tI0 tI1 _).mono ?_
        rintro e w2 ⟨rfl, b2⟩
        clear cxt_0 cxt_1 fxt_0 fxt_1 l_xt_0
        have z2 := b2.size
        try simp only [World.size_alloc, World.size_setCell, size_drew] at z2
        have B2 : Below w.heap.size w w2 := Below.t b2
        have xk_ : Box w2 (w.heap.size) #[.int .i64 kI0, (.slice kA1 kn1 kc1)] 33 := xk.below b2 (by first | omega | (simp [size_drew]; done) | (simp [size_drew]; omega))
        clear xk; have xk := xk_; clear xk_
        have xt_ : Box w2 (w.heap.size + 1) #[.int .i64 tI0, .int .i64 tI1] 40 := xt.below b2 (by first | omega | (simp [size_drew]; done) | (simp [size_drew]; omega))
        clear xt; have xt := xt_; clear xt_
        have xr_ : Box w2 (w.heap.size + 1 + 1) #[.slice none 0 0, .slice none 0 0] 38 := xr.below b2 (by first | omega | (simp [size_drew]; done) | (simp [size_drew]; omega))
        clear xr; have xr := xr_; clear xr_
        have xq_ : Box w2 (w.heap.size + 1 + 1 + 1) #[.int .i64 0, .int .i64 0] 40 := xq.below b2 (by first | omega | (simp [size_drew]; done) | (simp [size_drew]; omega))
        clear xq; have xq := xq_; clear xq_
        have kb := keysOk_iff.1 k1
        have kb1 : (1 : Int) ≤ kn1 ∧ (kn1 : Int) ≤ 5 := by have := kL1l.out; omega
        obtain ⟨kb2, kb3⟩ := kb1
        have hnk := Lib.hid (show nK kL1 = (kn1 : Int) - 1 by rw [nK, kL1l.out])
        clear kb
        obtain ⟨cxk_0, cxk_1, fxk_0, fxk_1⟩ := xk.two
        have l_xk_0 : w.heap.size < w2.heap.size := by omega
        obtain ⟨cxt_0, cxt_1, fxt_0, fxt_1⟩ := xt.two
        have l_xt_0 : w.heap.size + 1 < w2.heap.size := by omega
        go_wp2_with fail
        refine (sTapeList_L tI0 tI1 kI0 ((kn1 : Int) - 1)).mono ?_
        rintro e w3 ⟨pA, pn, pc, rfl, r0, b3⟩
        clear cxk_0 cxk_1 fxk_0 fxk_1 l_xk_0 cxt_0 cxt_1 fxt_0 fxt_1 l_xt_0
        have z3 := b3.size
        try simp only [World.size_alloc, World.size_setCell, size_drew] at z3
        have B3 : Below w.heap.size w w3 := Below.t b3
        have xk_ : Box w3 (w.heap.size) #[.int .i64 kI0, (.slice kA1 kn1 kc1)] 33 := xk.below b3 (by first | omega | (simp [size_drew]; done) | (simp [size_drew]; omega))
        clear xk; have xk := xk_; clear xk_
        have xt_ : Box w3 (w.heap.size + 1) #[.int .i64 tI0, .int .i64 tI1] 40 := xt.below b3 (by first | omega | (simp [size_drew]; done) | (simp [size_drew]; omega))
        clear xt; have xt := xt_; clear xt_
        have xr_ : Box w3 (w.heap.size + 1 + 1) #[.slice none 0 0, .slice none 0 0] 38 := xr.below b3 (by first | omega | (simp [size_drew]; done) | (simp [size_drew]; omega))
        clear xr; have xr := xr_; clear xr_
        have xq_ : Box w3 (w.heap.size + 1 + 1 + 1) #[.int .i64 0, .int .i64 0] 40 := xq.below b3 (by first | omega | (simp [size_drew]; done) | (simp [size_drew]; omega))
        clear xq; have xq := xq_; clear xq_
        try simp only [World.size_alloc, World.size_setCell, size_drew] at r0
        have pl := (Rd.toInts (r0.rd (.slice pA pn pc, .ints (tapeL tI0 tI1 kI0 ((kn1 : Int) - 1))) (by simp))).len
        have pm : pn ≤ 1000 := by rw [← pl]; exact tapeL_len _ _ _ _
        have ph := Lib.hid pl; clear pl
        obtain ⟨cxk_0, cxk_1, fxk_0, fxk_1⟩ := xk.two
        have l_xk_0 : w.heap.size < w3.heap.size := by omega
        have l_xk_1 : w.heap.size < w3.heap.size + 1 := by omega
        go_wp2_with fail
        refine (sTapeList_L tI0 (tapeLN tI0 tI1 kI0 ((kn1 : Int) - 1)) kI0 ((kn1 : Int) - 1)).mono ?_
        rintro e w4 ⟨qA, qn, qc, rfl, r1, b4⟩
        clear cxk_0 cxk_1 fxk_0 fxk_1 l_xk_0 l_xk_1
        have z4 := b4.size
        try simp only [World.size_alloc, World.size_setCell, size_drew] at z4
        have B4 : Below w.heap.size w w4 := Below.t b4
        have r0_ := (r0.alloc _).below b4
        clear r0; have r0 := r0_; clear r0_
        have xk_ : Box w4 (w.heap.size) #[.int .i64 kI0, (.slice kA1 kn1 kc1)] 33 := (xk.alloc _).below b4 (by first | omega | (simp [size_drew]; done) | (simp [size_drew]; omega))
        clear xk; have xk := xk_; clear xk_
        have xt_ : Box w4 (w.heap.size + 1) #[.int .i64 tI0, .int .i64 tI1] 40 := (xt.alloc _).below b4 (by first | omega | (simp [size_drew]; done) | (simp [size_drew]; omega))
        clear xt; have xt := xt_; clear xt_
        have xr_ : Box w4 (w.heap.size + 1 + 1) #[.slice none 0 0, .slice none 0 0] 38 := (xr.alloc _).below b4 (by first | omega | (simp [size_drew]; done) | (simp [size_drew]; omega))
        clear xr; have xr := xr_; clear xr_
        have xq_ : Box w4 (w.heap.size + 1 + 1 + 1) #[.int .i64 0, .int .i64 0] 40 := (xq.alloc _).below b4 (by first | omega | (simp [size_drew]; done) | (simp [size_drew]; omega))
        clear xq; have xq := xq_; clear xq_
        have x1_ : Box w4 (w3.heap.size) #[.int .i64 tI0, .int .i64 (tapeLN tI0 tI1 kI0 ((kn1 : Int) - 1))] 40 := (Box.new (g := w3.heap.size) _ #[.int .i64 tI0, .int .i64 (tapeLN tI0 tI1 kI0 ((kn1 : Int) - 1))] 40 (by simp)).below b4 (by first | omega | (simp [size_drew]; done) | (simp [size_drew]; omega))
        have x1 := x1_; clear x1_
        try simp only [World.size_alloc, World.size_setCell, size_drew] at r1
        have ql := (Rd.toInts (r1.rd (.slice qA qn qc, .ints (tapeL tI0 (tapeLN tI0 tI1 kI0 ((kn1 : Int) - 1)) kI0 ((kn1 : Int) - 1))) (by simp))).len
        have qm : qn ≤ 1000 := by rw [← ql]; exact tapeL_len _ _ _ _
        have qh := Lib.hid ql; clear ql
        obtain ⟨cxk_0, cxk_1, fxk_0, fxk_1⟩ := xk.two
        have l_xk_0 : w.heap.size < w4.heap.size := by omega
        have l_xk_1 : w.heap.size < w4.heap.size + 1 := by omega
        go_wp2_with fail
        clear cxk_0 cxk_1 fxk_0 fxk_1 l_xk_0 l_xk_1
        generalize hw5 : World.alloc _ _ = w5
        have z5 : w4.heap.size + 1 ≤ w5.heap.size := by rw [← hw5]; simp
        have B5 : Below w.heap.size w w5 := by rw [← hw5]; repeat (with_reducible (first | assumption | exact Below.refl _ _ | refine Below.alloc ?_ (by first | omega | (simp; done) | (simp; omega)) _ | refine Below.setCell ?_ (by first | omega | (simp; done) | (simp; omega)) _ | refine Below.drew ?_ | refine below_drewN ?_ _))
        have hK : ∀ k, k < w4.heap.size → w5.heap[k]? = w4.heap[k]? := by
          intro k hk; rw [← hw5]
          repeat (first | rfl | refine (Below.heap_alloc _ _ _ (by first | omega | (simp; omega))).trans ?_)
        have r0_ := r0.keepBlock (w' := w5) (by omega) (fun k h1 h2 => hK k  (by have := r0.2.1; omega))
        clear r0; have r0 := r0_; clear r0_
        have r1_ := r1.keepBlock (w' := w5) (by omega) (fun k h1 h2 => hK k  (by have := r1.2.1; omega))
        clear r1; have r1 := r1_; clear r1_
        have xk_ : Box w5 (w.heap.size) #[.int .i64 kI0, (.slice kA1 kn1 kc1)] 33 := (by rw [← hw5]; exact (xk.alloc _))
        clear xk; have xk := xk_; clear xk_
        have xt_ : Box w5 (w.heap.size + 1) #[.int .i64 tI0, .int .i64 tI1] 40 := (by rw [← hw5]; exact (xt.alloc _))
        clear xt; have xt := xt_; clear xt_
        have xr_ : Box w5 (w.heap.size + 1 + 1) #[.slice none 0 0, .slice none 0 0] 38 := (by rw [← hw5]; exact (xr.alloc _))
        clear xr; have xr := xr_; clear xr_
        have xq_ : Box w5 (w.heap.size + 1 + 1 + 1) #[.int .i64 0, .int .i64 0] 40 := (by rw [← hw5]; exact (xq.alloc _))
        clear xq; have xq := xq_; clear xq_
        have x1_ : Box w5 (w3.heap.size) #[.int .i64 tI0, .int .i64 (tapeLN tI0 tI1 kI0 ((kn1 : Int) - 1))] 40 := (by rw [← hw5]; exact (x1.alloc _))
        clear x1; have x1 := x1_; clear x1_
        have x2_ : Box w5 (w4.heap.size) #[.int .i64 tI0, .int .i64 (tapeLN tI0 (tapeLN tI0 tI1 kI0 ((kn1 : Int) - 1)) kI0 ((kn1 : Int) - 1))] 40 := (by rw [← hw5]; exact (Box.new (g := w4.heap.size) _ #[.int .i64 tI0, .int .i64 (tapeLN tI0 (tapeLN tI0 tI1 kI0 ((kn1 : Int) - 1)) kI0 ((kn1 : Int) - 1))] 40 (by simp)))
        have x2 := x2_; clear x2_
        clear hw5 hK
        refine wp_region_held_drew (S := fun W => W.cell? ⟨w.heap.size, 0, none⟩ = some (.int .i64 kI0) ∧ W.cell? ⟨w.heap.size, 1, none⟩ = some ((.slice kA1 kn1 kc1)) ∧ W.cell? ⟨w4.heap.size, 0, none⟩ = some (.int .i64 tI0) ∧ W.cell? ⟨w4.heap.size, 1, none⟩ = some (.int .i64 (tapeLN tI0 (tapeLN tI0 tI1 kI0 ((kn1 : Int) - 1)) kI0 ((kn1 : Int) - 1)))) (by kernel_rfl) ⟨xk.drew.two.1, xk.drew.two.2.1, x2.drew.two.1, x2.drew.two.2.1⟩ (fun hS => ?_)
        (refine tk 0 hS ?_; (try simp only [Act.put, layA, layB, layC]))
        (refine tk 1 hS ?_; (try simp only [Act.put, layA, layB, layC]))
        (refine tk 2 hS ?_; (try simp only [Act.put, layA, layB, layC]))
        (refine tk 3 hS ?_; (try simp only [Act.put, layA, layB, layC]))
        (refine tk 4 hS ?_; (try simp only [Act.put, layA, layB, layC]))
        (refine tk 5 hS ?_; (try simp only [Act.put, layA, layB, layC]))
        (refine tk 6 hS ?_; (try simp only [Act.put, layA, layB, layC]))
        (refine tk 11 hS ?_; (try simp only [Act.put, layA, layB, layC]))
        (refine tk 12 hS ?_; (try simp only [Act.put, layA, layB, layC]))
        (refine tk 13 hS ?_; (try simp only [Act.put, layA, layB, layC]))
        (refine tk 14 hS ?_; (try simp only [Act.put, layA, layB, layC]))
        (refine tk 15 hS ?_; (try simp only [Act.put, layA, layB, layC]))
        (refine tk 16 hS ?_; (try simp only [Act.put, layA, layB, layC]))
        (refine tk 17 hS ?_; (try simp only [Act.put, layA, layB, layC]))
        (refine tk 20 hS ?_; (try simp only [Act.put, layA, layB, layC]))
        (refine tk 21 hS ?_; (try simp only [Act.put, layA, layB, layC]))
        (refine tk 22 hS ?_; (try simp only [Act.put, layA, layB, layC]))
        (refine tk 28 hS ?_; (try simp only [Act.put, layA, layB, layC]))
        refine on 7 ?_
        refine callH (by go_simp; (first | done | with_reducible rfl | exact ⟨rfl, rfl⟩)) ?_
        go_at_call 104
        refine (sFSum_any _ _ _ _ _ _ (Rd.toInts ((r0.drew).rd (.slice pA pn pc, .ints (tapeL tI0 tI1 kI0 ((kn1 : Int) - 1))) (by simp))) (by omega)).mono ?_
        rintro e w_ ⟨rfl, rfl⟩
        refine ⟨_, rfl, hS, fun hS => ?_⟩
        (try simp only [Act.put, layA, layB, layC])
        refine on 8 ?_
        refine callH (by go_simp; (first | done | with_reducible rfl | exact ⟨rfl, rfl⟩)) ?_
        go_at_call 88
        refine (sFSub_any _ _ _ _).mono ?_
        rintro e w_ ⟨rfl, rfl⟩
        refine ⟨_, rfl, hS, fun hS => ?_⟩
        (try simp only [Act.put, layA, layB, layC])
        refine on 9 ?_
        refine valueH (by go_simp; (first | done | with_reducible rfl | exact ⟨rfl, rfl⟩)) ?_ (fun hS_ => ?_)
        · exact ⟨(xk.alloc _).drew.two.1, (xk.alloc _).drew.two.2.1, (x2.alloc _).drew.two.1, (x2.alloc _).drew.two.2.1⟩
        clear hS
        have hS := hS_
        clear hS_
        (try simp only [Act.put, layA, layB, layC])
        refine on 10 ?_
        refine appendH_L (.tmp 51) (.tmp 60) rfl rfl ((r0.alloc _).drew) rfl (Ints.new (g := w5.heap.size) _ [fsub kI0 xI0 (fsum kI0 (tapeL tI0 tI1 kI0 ((kn1 : Int) - 1)))] 3 (by simp) rfl).drew (by have := ph.out; omega) ?_
        intro uA un uc ulo uhi w6 r0_ dr0 c6
        have z6 := c6.size
        (try simp only [World.size_alloc, World.size_setCell, size_drew] at z6 dr0)
        have B6 : Below w.heap.size w w6 := Below.trans (b := _) (by repeat (with_reducible (first | assumption | exact Below.refl _ _ | refine Below.alloc ?_ (by first | omega | (simp; done) | (simp; omega)) _ | refine Below.setCell ?_ (by first | omega | (simp; done) | (simp; omega)) _ | refine Below.drew ?_ | refine below_drewN ?_ _))) (c6.below (by omega) (by first | omega | (simp [size_drew]; done) | (simp [size_drew]; omega)))
        clear r0; have r0 := r0_; clear r0_
        have r1_ := ((r1.alloc _).drew).away c6 (by omega)
        clear r1; have r1 := r1_; clear r1_
        have xk_ : Box w6 (w.heap.size) #[.int .i64 kI0, (.slice kA1 kn1 kc1)] 33 := ((xk.alloc _).drew).chg c6 (by omega)
        clear xk; have xk := xk_; clear xk_
        have xt_ : Box w6 (w.heap.size + 1) #[.int .i64 tI0, .int .i64 tI1] 40 := ((xt.alloc _).drew).chg c6 (by omega)
        clear xt; have xt := xt_; clear xt_
        have xr_ : Box w6 (w.heap.size + 1 + 1) #[.slice none 0 0, .slice none 0 0] 38 := ((xr.alloc _).drew).chg c6 (by omega)
        clear xr; have xr := xr_; clear xr_
        have xq_ : Box w6 (w.heap.size + 1 + 1 + 1) #[.int .i64 0, .int .i64 0] 40 := ((xq.alloc _).drew).chg c6 (by omega)
        clear xq; have xq := xq_; clear xq_
        have x1_ : Box w6 (w3.heap.size) #[.int .i64 tI0, .int .i64 (tapeLN tI0 tI1 kI0 ((kn1 : Int) - 1))] 40 := ((x1.alloc _).drew).chg c6 (by omega)
        clear x1; have x1 := x1_; clear x1_
        have x2_ : Box w6 (w4.heap.size) #[.int .i64 tI0, .int .i64 (tapeLN tI0 (tapeLN tI0 tI1 kI0 ((kn1 : Int) - 1)) kI0 ((kn1 : Int) - 1))] 40 := ((x2.alloc _).drew).chg c6 (by omega)
        clear x2; have x2 := x2_; clear x2_
        have xl0_ : Box w6 (w5.heap.size) #[.int .i64 (fsub kI0 xI0 (fsum kI0 (tapeL tI0 tI1 kI0 ((kn1 : Int) - 1))))] 3 := ((Box.new (g := w5.heap.size) _ #[.int .i64 (fsub kI0 xI0 (fsum kI0 (tapeL tI0 tI1 kI0 ((kn1 : Int) - 1))))] 3 (by simp)).drew).chg c6 (by omega)
        have xl0 := xl0_; clear xl0_
        refine ⟨⟨xk.two.1, xk.two.2.1, x2.two.1, x2.two.2.1⟩, fun hS_ => ?_⟩
        clear hS; have hS := hS_; clear hS_
        (try simp only [Act.put, layA, layB, layC])
        refine on 18 ?_
        refine callH (by go_simp; (first | done | with_reducible rfl | exact ⟨rfl, rfl⟩)) ?_
        go_at_call 106
        refine (sl23Key_L kI0 (RdL.b kH) kL1n).mono ?_
        rintro e w7 ⟨rfl, b7⟩
        clear hS
        have z7 := Below.size b7
        (try simp only [World.size_alloc, World.size_setCell, size_drew] at z7)
        have B7 : Below w.heap.size w w7 := Below.t b7
        have r1_ := (r1.below b7)
        clear r1; have r1 := r1_; clear r1_
        have r0_ := (r0.below b7)
        clear r0; have r0 := r0_; clear r0_
        have xk_ : Box w7 (w.heap.size) #[.int .i64 kI0, (.slice kA1 kn1 kc1)] 33 := (Box.b xk b7)
        clear xk; have xk := xk_; clear xk_
        have xt_ : Box w7 (w.heap.size + 1) #[.int .i64 tI0, .int .i64 tI1] 40 := (Box.b xt b7)
        clear xt; have xt := xt_; clear xt_
        have xr_ : Box w7 (w.heap.size + 1 + 1) #[.slice none 0 0, .slice none 0 0] 38 := (Box.b xr b7)
        clear xr; have xr := xr_; clear xr_
        have xq_ : Box w7 (w.heap.size + 1 + 1 + 1) #[.int .i64 0, .int .i64 0] 40 := (Box.b xq b7)
        clear xq; have xq := xq_; clear xq_
        have x1_ : Box w7 (w3.heap.size) #[.int .i64 tI0, .int .i64 (tapeLN tI0 tI1 kI0 ((kn1 : Int) - 1))] 40 := (Box.b x1 b7)
        clear x1; have x1 := x1_; clear x1_
        have x2_ : Box w7 (w4.heap.size) #[.int .i64 tI0, .int .i64 (tapeLN tI0 (tapeLN tI0 tI1 kI0 ((kn1 : Int) - 1)) kI0 ((kn1 : Int) - 1))] 40 := (Box.b x2 b7)
        clear x2; have x2 := x2_; clear x2_
        refine ⟨_, rfl, ⟨xk.two.1, xk.two.2.1, x2.two.1, x2.two.2.1⟩, fun hS => ?_⟩
        (try simp only [Act.put, layA, layB, layC])
        refine on 19 ?_
        refine callH (by go_simp; (first | done | with_reducible rfl | exact ⟨rfl, rfl⟩)) ?_
        go_at_call 105
        refine (sFMul_any _ _ _ _).mono ?_
        rintro e w_ ⟨rfl, rfl⟩
        refine ⟨_, rfl, hS, fun hS => ?_⟩
        (try simp only [Act.put, layA, layB, layC])
        refine on 23 ?_
        refine callH (by go_simp; (first | done | with_reducible rfl | exact ⟨rfl, rfl⟩)) ?_
        go_at_call 104
        refine (sFSum_any _ _ _ _ _ _ (Rd.toInts ((r1).rd (.slice qA qn qc, .ints (tapeL tI0 (tapeLN tI0 tI1 kI0 ((kn1 : Int) - 1)) kI0 ((kn1 : Int) - 1))) (by simp))) (by omega)).mono ?_
        rintro e w_ ⟨rfl, rfl⟩
        refine ⟨_, rfl, hS, fun hS => ?_⟩
        (try simp only [Act.put, layA, layB, layC])
        refine on 24 ?_
        refine callH (by go_simp; (first | done | with_reducible rfl | exact ⟨rfl, rfl⟩)) ?_
        go_at_call 88
        refine (sFSub_any _ _ _ _).mono ?_
        rintro e w_ ⟨rfl, rfl⟩
        refine ⟨_, rfl, hS, fun hS => ?_⟩
        (try simp only [Act.put, layA, layB, layC])
        refine on 25 ?_
        refine valueH (by go_simp; (first | done | with_reducible rfl | exact ⟨rfl, rfl⟩)) ?_ (fun hS_ => ?_)
        · exact ⟨(xk.alloc _).two.1, (xk.alloc _).two.2.1, (x2.alloc _).two.1, (x2.alloc _).two.2.1⟩
        clear hS
        have hS := hS_
        clear hS_
        (try simp only [Act.put, layA, layB, layC])
        refine on 26 ?_
        refine appendH_L (.tmp 62) (.tmp 76) rfl rfl ((r1.alloc _)) rfl (Ints.new (g := w7.heap.size) _ [fsub kI0 (fmul kI0 xI0 (fsum kI0 kL1)) (fsum kI0 (tapeL tI0 (tapeLN tI0 tI1 kI0 ((kn1 : Int) - 1)) kI0 ((kn1 : Int) - 1)))] 3 (by simp) rfl) (by have := qh.out; omega) ?_
        intro vA vn vc vlo vhi w8 r1_ dr1 c8
        have z8 := c8.size
        (try simp only [World.size_alloc, World.size_setCell, size_drew] at z8 dr1)
        have B8 : Below w.heap.size w w8 := Below.trans (b := _) (by repeat (with_reducible (first | assumption | exact Below.refl _ _ | refine Below.alloc ?_ (by first | omega | (simp; done) | (simp; omega)) _ | refine Below.setCell ?_ (by first | omega | (simp; done) | (simp; omega)) _ | refine Below.drew ?_ | refine below_drewN ?_ _))) (c8.below (by omega) (by first | omega | (simp [size_drew]; done) | (simp [size_drew]; omega)))
        clear r1; have r1 := r1_; clear r1_
        have r0_ := ((r0.alloc _)).away c8 (by omega)
        clear r0; have r0 := r0_; clear r0_
        have xk_ : Box w8 (w.heap.size) #[.int .i64 kI0, (.slice kA1 kn1 kc1)] 33 := ((xk.alloc _)).chg c8 (by omega)
        clear xk; have xk := xk_; clear xk_
        have xt_ : Box w8 (w.heap.size + 1) #[.int .i64 tI0, .int .i64 tI1] 40 := ((xt.alloc _)).chg c8 (by omega)
        clear xt; have xt := xt_; clear xt_
        have xr_ : Box w8 (w.heap.size + 1 + 1) #[.slice none 0 0, .slice none 0 0] 38 := ((xr.alloc _)).chg c8 (by omega)
        clear xr; have xr := xr_; clear xr_
        have xq_ : Box w8 (w.heap.size + 1 + 1 + 1) #[.int .i64 0, .int .i64 0] 40 := ((xq.alloc _)).chg c8 (by omega)
        clear xq; have xq := xq_; clear xq_
        have x1_ : Box w8 (w3.heap.size) #[.int .i64 tI0, .int .i64 (tapeLN tI0 tI1 kI0 ((kn1 : Int) - 1))] 40 := ((x1.alloc _)).chg c8 (by omega)
        clear x1; have x1 := x1_; clear x1_
        have x2_ : Box w8 (w4.heap.size) #[.int .i64 tI0, .int .i64 (tapeLN tI0 (tapeLN tI0 tI1 kI0 ((kn1 : Int) - 1)) kI0 ((kn1 : Int) - 1))] 40 := ((x2.alloc _)).chg c8 (by omega)
        clear x2; have x2 := x2_; clear x2_
        have xl1_ : Box w8 (w7.heap.size) #[.int .i64 (fsub kI0 (fmul kI0 xI0 (fsum kI0 kL1)) (fsum kI0 (tapeL tI0 (tapeLN tI0 tI1 kI0 ((kn1 : Int) - 1)) kI0 ((kn1 : Int) - 1))))] 3 := ((Box.new (g := w7.heap.size) _ #[.int .i64 (fsub kI0 (fmul kI0 xI0 (fsum kI0 kL1)) (fsum kI0 (tapeL tI0 (tapeLN tI0 tI1 kI0 ((kn1 : Int) - 1)) kI0 ((kn1 : Int) - 1))))] 3 (by simp))).chg c8 (by omega)
        have xl1 := xl1_; clear xl1_
        refine ⟨⟨xk.two.1, xk.two.2.1, x2.two.1, x2.two.2.1⟩, fun hS_ => ?_⟩
        clear hS; have hS := hS_; clear hS_
        (try simp only [Act.put, layA, layB, layC])
        (refine tk 27 hS ?_; (try simp only [Act.put, layA, layB, layC]))
        refine on 29 ?_
        obtain ⟨cxr_0, cxr_1, fxr_0, fxr_1⟩ := xr.two
        refine skipH (by go_simp; (first | done | with_reducible rfl | exact ⟨rfl, rfl⟩)) ?_ (fun hS_ => ?_)
        · exact ⟨((xk.far (by omega)).far (by omega)).two.1, ((xk.far (by omega)).far (by omega)).two.2.1, ((x2.far (by omega)).far (by omega)).two.1, ((x2.far (by omega)).far (by omega)).two.2.1⟩
        clear cxr_0 cxr_1 fxr_0 fxr_1
        clear hS
        have hS := hS_
        clear hS_
        (try simp only [Act.put, layA, layB, layC])
        refine on 30 ?_
        obtain ⟨cxq_0, cxq_1, fxq_0, fxq_1⟩ := xq.two
        refine skipH (by go_simp; (first | done | with_reducible rfl | exact ⟨rfl, rfl⟩)) ?_ (fun hS_ => ?_)
        · exact ⟨((((xk.far (by omega)).far (by omega)).far (by omega)).far (by omega)).two.1, ((((xk.far (by omega)).far (by omega)).far (by omega)).far (by omega)).two.2.1, ((((x2.far (by omega)).far (by omega)).far (by omega)).far (by omega)).two.1, ((((x2.far (by omega)).far (by omega)).far (by omega)).far (by omega)).two.2.1⟩
        clear cxq_0 cxq_1 fxq_0 fxq_1
        clear hS
        have hS := hS_
        clear hS_
        (try simp only [Act.put, layA, layB, layC])
        clear hS
        refine wpAnyH_done (by kernel_rfl) ?_ _
        obtain ⟨cxr_0, cxr_1, fxr_0, fxr_1⟩ := xr.two
        have l_xr_0 : w.heap.size + 1 + 1 < w8.heap.size := by omega
        obtain ⟨cxq_0, cxq_1, fxq_0, fxq_1⟩ := xq.two
        have l_xq_0 : w.heap.size + 1 + 1 + 1 < w8.heap.size := by omega
        go_wp2
        refine bodyPost_ret (v := .tuple #[.agg #[.slice uA un uc, .slice vA vn vc], .agg #[.int .i64 tI0, .int .i64 (tapeLN tI0 (tapeLN tI0 tI1 kI0 ((kn1 : Int) - 1)) kI0 ((kn1 : Int) - 1))]]) ?_ rfl ⟨uA, un, uc, vA, vn, vc, by rw [nT_yes HO.out, hnk.out], ?_, ?_⟩
        · simp [results, Try.results78, go_sem, cxr_0, cxr_1, fxr_0, fxr_1, l_xr_0, cxq_0, cxq_1, fxq_0, fxq_1, l_xq_0]
        · have R := OwnL.two (B := w.heap.size + 1 + 1 + 1 + 1) r0 r1 (by omega) (by omega) (by omega)
          simp only [List.cons_append, List.nil_append] at R
          rw [nS_yes HO.out, nM_yes HO.out, hnk.out]; exact OwnL.mono ((((R.setBox (by omega)).setBox (by omega)).setBox (by omega)).setBox (by omega)) (by omega) (by first | omega | (simp [size_drew]; done) | (simp [size_drew]; omega)) (Nat.le_refl _)
        · repeat (with_reducible (first | assumption | exact Below.refl _ _ | refine Below.alloc ?_ (by first | omega | (simp; done) | (simp; omega)) _ | refine Below.setCell ?_ (by first | omega | (simp; done) | (simp; omega)) _ | refine Below.drew ?_ | refine below_drewN ?_ _))
set_option maxRecDepth 100000 in
set_option maxHeartbeats 2000000 in
theorem iAuthNew_L {kA1 : Option Addr} {kn1 kc1 : Nat} {kL1 : List Int} {w : World} (kI0 : Int) (kH : RdL w [((.slice kA1 kn1 kc1), .ints kL1)]) (kL1n : kL1.length ≤ 1048576) (xI0 : Int) (tI0 : Int) (tI1 : Int) :
    Calls Try.prog 38 #[.agg #[.int .i64 kI0, (.slice kA1 kn1 kc1)], .int .i64 xI0, .agg #[.int .i64 tI0, .int .i64 tI1]] w fun e w' => ∃ rA0 rn0 rc0 rA1 rn1 rc1, e = .returned (.tuple #[.agg #[.slice rA0 rn0 rc0, .slice rA1 rn1 rc1], .agg #[.int .i64 tI0, .int .i64 (nT kI0 kL1 xI0 tI0 tI1)]]) ∧ OwnL w' w.heap.size w'.heap.size [(.slice rA0 rn0 rc0, .ints (nS kI0 kL1 xI0 tI0 tI1)), (.slice rA1 rn1 rc1, .ints (nM kI0 kL1 xI0 tI0 tI1))] ∧ Below w.heap.size w w' := by
  have kL1i : Ints w kA1 kn1 kL1 := Rd.toInts (kH ((.slice kA1 kn1 kc1), .ints kL1) (by simp))
  have kL1l := Lib.hid kL1i.len
  have kL1m : kn1 ≤ 1048576 := by rw [← kL1l.out]; exact kL1n
  cases k1 : keysOk kI0 kL1 with
  | false =>
    have HO : Hid (nOk kI0 kL1 xI0 tI0 tI1 = false) := by show _ = _; simp [nOk, t9, k1]
    go_enter Try.func38, Try.ntmps38
    go_wp2_with fail
    refine (iKeysOk_L kI0 (RdL.b kH) kL1n).mono ?_
    rintro e w1 ⟨rfl, b1⟩
    have z1 := b1.size
    try simp only [World.size_alloc, World.size_setCell, size_drew] at z1
    have B1 : Below w.heap.size w w1 := Below.t b1
    have xk_ : Box w1 (w.heap.size) #[.int .i64 kI0, (.slice kA1 kn1 kc1)] 33 := ((((Box.new (g := w.heap.size) _ #[.int .i64 kI0, (.slice kA1 kn1 kc1)] 33 (by simp)).alloc _).alloc _).alloc _).below b1 (by first | omega | (simp [size_drew]; done) | (simp [size_drew]; omega))
    have xk := xk_; clear xk_
    have xt_ : Box w1 (w.heap.size + 1) #[.int .i64 tI0, .int .i64 tI1] 40 := (((Box.new (g := w.heap.size + 1) _ #[.int .i64 tI0, .int .i64 tI1] 40 (by simp)).alloc _).alloc _).below b1 (by first | omega | (simp [size_drew]; done) | (simp [size_drew]; omega))
    have xt := xt_; clear xt_
    have xr_ : Box w1 (w.heap.size + 1 + 1) #[.slice none 0 0, .slice none 0 0] 38 := ((Box.new (g := w.heap.size + 1 + 1) _ #[.slice none 0 0, .slice none 0 0] 38 (by simp)).alloc _).below b1 (by first | omega | (simp [size_drew]; done) | (simp [size_drew]; omega))
    have xr := xr_; clear xr_
    have xq_ : Box w1 (w.heap.size + 1 + 1 + 1) #[.int .i64 0, .int .i64 0] 40 := (Box.new (g := w.heap.size + 1 + 1 + 1) _ #[.int .i64 0, .int .i64 0] 40 (by simp)).below b1 (by first | omega | (simp [size_drew]; done) | (simp [size_drew]; omega))
    have xq := xq_; clear xq_
    obtain ⟨cxt_0, cxt_1, fxt_0, fxt_1⟩ := xt.two
    have l_xt_0 : w.heap.size + 1 < w1.heap.size := by omega
    go_wp2_with fail
    clear cxt_0 cxt_1 fxt_0 fxt_1 l_xt_0
    refine wp_region_held_drew (S := fun W => W.cell? ⟨w.heap.size + 1, 0, none⟩ = some (.int .i64 tI0) ∧ W.cell? ⟨w.heap.size + 1, 1, none⟩ = some (.int .i64 tI1)) (by kernel_rfl) ⟨xt.drew.two.1, xt.drew.two.2.1⟩ (fun hS => ?_)
    (refine tk 0 hS ?_; (try simp only [Act.put, layA, layB, layC]))
    (refine tk 1 hS ?_; (try simp only [Act.put, layA, layB, layC]))
    refine on 2 ?_
    obtain ⟨cxr_0, cxr_1, fxr_0, fxr_1⟩ := xr.two
    refine skipH (by go_simp; (first | done | with_reducible rfl | exact ⟨rfl, rfl⟩)) ?_ (fun hS_ => ?_)
    · exact ⟨((xt.far (by omega)).far (by omega)).drew.two.1, ((xt.far (by omega)).far (by omega)).drew.two.2.1⟩
    clear cxr_0 cxr_1 fxr_0 fxr_1
    clear hS
    have hS := hS_
    clear hS_
    (try simp only [Act.put, layA, layB, layC])
    refine on 3 ?_
    obtain ⟨cxq_0, cxq_1, fxq_0, fxq_1⟩ := xq.two
    refine skipH (by go_simp; (first | done | with_reducible rfl | exact ⟨rfl, rfl⟩)) ?_ (fun hS_ => ?_)
    · exact ⟨((((xt.far (by omega)).far (by omega)).far (by omega)).far (by omega)).drew.two.1, ((((xt.far (by omega)).far (by omega)).far (by omega)).far (by omega)).drew.two.2.1⟩
    clear cxq_0 cxq_1 fxq_0 fxq_1
    clear hS
    have hS := hS_
    clear hS_
    (try simp only [Act.put, layA, layB, layC])
    clear hS
    refine wpAnyH_done (by kernel_rfl) ?_ _
    obtain ⟨cxr_0, cxr_1, fxr_0, fxr_1⟩ := xr.two
    have l_xr_0 : w.heap.size + 1 + 1 < w1.heap.size := by omega
    obtain ⟨cxq_0, cxq_1, fxq_0, fxq_1⟩ := xq.two
    have l_xq_0 : w.heap.size + 1 + 1 + 1 < w1.heap.size := by omega
    go_wp2
    refine bodyPost_ret (v := .tuple #[.agg #[.slice none 0 0, .slice none 0 0], .agg #[.int .i64 tI0, .int .i64 tI1]]) ?_ rfl ⟨none, 0, 0, none, 0, 0, by rw [nT_no HO.out], ?_, ?_⟩
    · simp [results, Try.results38, go_sem, cxr_0, cxr_1, fxr_0, fxr_1, l_xr_0, cxq_0, cxq_1, fxq_0, fxq_1, l_xq_0]
    · rw [nS_no HO.out, nM_no HO.out]; exact OwnL.nones _ (by simp) (by first | omega | (simp [size_drew]; done) | (simp [size_drew]; omega))
    · repeat (with_reducible (first | assumption | exact Below.refl _ _ | refine Below.alloc ?_ (by first | omega | (simp; done) | (simp; omega)) _ | refine Below.setCell ?_ (by first | omega | (simp; done) | (simp; omega)) _ | refine Below.drew ?_ | refine below_drewN ?_ _))
  | true =>
    cases k2 : elem kI0 xI0 with
    | false =>
      have HO : Hid (nOk kI0 kL1 xI0 tI0 tI1 = false) := by show _ = _; simp [nOk, t9, k1, k2]
      go_enter Try.func38, Try.ntmps38
      go_wp2_with fail
      refine (iKeysOk_L kI0 (RdL.b kH) kL1n).mono ?_
      rintro e w1 ⟨rfl, b1⟩
      have z1 := b1.size
      try simp only [World.size_alloc, World.size_setCell, size_drew] at z1
      have B1 : Below w.heap.size w w1 := Below.t b1
      have xk_ : Box w1 (w.heap.size) #[.int .i64 kI0, (.slice kA1 kn1 kc1)] 33 := ((((Box.new (g := w.heap.size) _ #[.int .i64 kI0, (.slice kA1 kn1 kc1)] 33 (by simp)).alloc _).alloc _).alloc _).below b1 (by first | omega | (simp [size_drew]; done) | (simp [size_drew]; omega))
      have xk := xk_; clear xk_
      have xt_ : Box w1 (w.heap.size + 1) #[.int .i64 tI0, .int .i64 tI1] 40 := (((Box.new (g := w.heap.size + 1) _ #[.int .i64 tI0, .int .i64 tI1] 40 (by simp)).alloc _).alloc _).below b1 (by first | omega | (simp [size_drew]; done) | (simp [size_drew]; omega))
      have xt := xt_; clear xt_
      have xr_ : Box w1 (w.heap.size + 1 + 1) #[.slice none 0 0, .slice none 0 0] 38 := ((Box.new (g := w.heap.size + 1 + 1) _ #[.slice none 0 0, .slice none 0 0] 38 (by simp)).alloc _).below b1 (by first | omega | (simp [size_drew]; done) | (simp [size_drew]; omega))
      have xr := xr_; clear xr_
      have xq_ : Box w1 (w.heap.size + 1 + 1 + 1) #[.int .i64 0, .int .i64 0] 40 := (Box.new (g := w.heap.size + 1 + 1 + 1) _ #[.int .i64 0, .int .i64 0] 40 (by simp)).below b1 (by first | omega | (simp [size_drew]; done) | (simp [size_drew]; omega))
      have xq := xq_; clear xq_
      obtain ⟨cxk_0, cxk_1, fxk_0, fxk_1⟩ := xk.two
      have l_xk_0 : w.heap.size < w1.heap.size := by omega
      go_wp2_with fail
      clear cxk_0 cxk_1 fxk_0 fxk_1 l_xk_0
      refine (iIsElement_any _ _ _).mono ?_
      rintro e w_ ⟨rfl, rfl⟩
      obtain ⟨cxt_0, cxt_1, fxt_0, fxt_1⟩ := xt.two
      have l_xt_0 : w.heap.size + 1 < w1.heap.size := by omega
      go_wp2_with fail
      clear cxt_0 cxt_1 fxt_0 fxt_1 l_xt_0
      refine wp_region_held_drew (S := fun W => W.cell? ⟨w.heap.size + 1, 0, none⟩ = some (.int .i64 tI0) ∧ W.cell? ⟨w.heap.size + 1, 1, none⟩ = some (.int .i64 tI1)) (by kernel_rfl) ⟨xt.drew.two.1, xt.drew.two.2.1⟩ (fun hS => ?_)
      (refine tk 0 hS ?_; (try simp only [Act.put, layA, layB, layC]))
      (refine tk 1 hS ?_; (try simp only [Act.put, layA, layB, layC]))
      refine on 2 ?_
      obtain ⟨cxr_0, cxr_1, fxr_0, fxr_1⟩ := xr.two
      refine skipH (by go_simp; (first | done | with_reducible rfl | exact ⟨rfl, rfl⟩)) ?_ (fun hS_ => ?_)
      · exact ⟨((xt.far (by omega)).far (by omega)).drew.two.1, ((xt.far (by omega)).far (by omega)).drew.two.2.1⟩
      clear cxr_0 cxr_1 fxr_0 fxr_1
      clear hS
      have hS := hS_
      clear hS_
      (try simp only [Act.put, layA, layB, layC])
      refine on 3 ?_
      obtain ⟨cxq_0, cxq_1, fxq_0, fxq_1⟩ := xq.two
      refine skipH (by go_simp; (first | done | with_reducible rfl | exact ⟨rfl, rfl⟩)) ?_ (fun hS_ => ?_)
      · exact ⟨((((xt.far (by omega)).far (by omega)).far (by omega)).far (by omega)).drew.two.1, ((((xt.far (by omega)).far (by omega)).far (by omega)).far (by omega)).drew.two.2.1⟩
      clear cxq_0 cxq_1 fxq_0 fxq_1
      clear hS
      have hS := hS_
      clear hS_
      (try simp only [Act.put, layA, layB, layC])
      clear hS
      refine wpAnyH_done (by kernel_rfl) ?_ _
      obtain ⟨cxr_0, cxr_1, fxr_0, fxr_1⟩ := xr.two
      have l_xr_0 : w.heap.size + 1 + 1 < w1.heap.size := by omega
      obtain ⟨cxq_0, cxq_1, fxq_0, fxq_1⟩ := xq.two
      have l_xq_0 : w.heap.size + 1 + 1 + 1 < w1.heap.size := by omega
      go_wp2
      refine bodyPost_ret (v := .tuple #[.agg #[.slice none 0 0, .slice none 0 0], .agg #[.int .i64 tI0, .int .i64 tI1]]) ?_ rfl ⟨none, 0, 0, none, 0, 0, by rw [nT_no HO.out], ?_, ?_⟩
      · simp [results, Try.results38, go_sem, cxr_0, cxr_1, fxr_0, fxr_1, l_xr_0, cxq_0, cxq_1, fxq_0, fxq_1, l_xq_0]
      · rw [nS_no HO.out, nM_no HO.out]; exact OwnL.nones _ (by simp) (by first | omega | (simp [size_drew]; done) | (simp [size_drew]; omega))
      · repeat (with_reducible (first | assumption | exact Below.refl _ _ | refine Below.alloc ?_ (by first | omega | (simp; done) | (simp; omega)) _ | refine Below.setCell ?_ (by first | omega | (simp; done) | (simp; omega)) _ | refine Below.drew ?_ | refine below_drewN ?_ _))
    | true =>
      cases k3 : tapeOk tI0 tI1 with
      | false =>
        have HO : Hid (nOk kI0 kL1 xI0 tI0 tI1 = false) := by show _ = _; simp [nOk, t9, k1, k2, k3]
        go_enter Try.func38, Try.ntmps38
        go_wp2_with fail
        refine (iKeysOk_L kI0 (RdL.b kH) kL1n).mono ?_
        rintro e w1 ⟨rfl, b1⟩
        have z1 := b1.size
        try simp only [World.size_alloc, World.size_setCell, size_drew] at z1
        have B1 : Below w.heap.size w w1 := Below.t b1
        have xk_ : Box w1 (w.heap.size) #[.int .i64 kI0, (.slice kA1 kn1 kc1)] 33 := ((((Box.new (g := w.heap.size) _ #[.int .i64 kI0, (.slice kA1 kn1 kc1)] 33 (by simp)).alloc _).alloc _).alloc _).below b1 (by first | omega | (simp [size_drew]; done) | (simp [size_drew]; omega))
        have xk := xk_; clear xk_
        have xt_ : Box w1 (w.heap.size + 1) #[.int .i64 tI0, .int .i64 tI1] 40 := (((Box.new (g := w.heap.size + 1) _ #[.int .i64 tI0, .int .i64 tI1] 40 (by simp)).alloc _).alloc _).below b1 (by first | omega | (simp [size_drew]; done) | (simp [size_drew]; omega))
        have xt := xt_; clear xt_
        have xr_ : Box w1 (w.heap.size + 1 + 1) #[.slice none 0 0, .slice none 0 0] 38 := ((Box.new (g := w.heap.size + 1 + 1) _ #[.slice none 0 0, .slice none 0 0] 38 (by simp)).alloc _).below b1 (by first | omega | (simp [size_drew]; done) | (simp [size_drew]; omega))
        have xr := xr_; clear xr_
        have xq_ : Box w1 (w.heap.size + 1 + 1 + 1) #[.int .i64 0, .int .i64 0] 40 := (Box.new (g := w.heap.size + 1 + 1 + 1) _ #[.int .i64 0, .int .i64 0] 40 (by simp)).below b1 (by first | omega | (simp [size_drew]; done) | (simp [size_drew]; omega))
        have xq := xq_; clear xq_
        obtain ⟨cxk_0, cxk_1, fxk_0, fxk_1⟩ := xk.two
        have l_xk_0 : w.heap.size < w1.heap.size := by omega
        go_wp2_with fail
        clear cxk_0 cxk_1 fxk_0 fxk_1 l_xk_0
        refine (iIsElement_any _ _ _).mono ?_
        rintro e w_ ⟨rfl, rfl⟩
        obtain ⟨cxt_0, cxt_1, fxt_0, fxt_1⟩ := xt.two
        have l_xt_0 : w.heap.size + 1 < w1.heap.size := by omega
        go_wp2_with fail
        refine (iTapeOk_any tI0 tI1 _).mono ?_
        rintro e w2 ⟨rfl, b2⟩
        clear cxt_0 cxt_1 fxt_0 fxt_1 l_xt_0
        have z2 := b2.size
        try simp only [World.size_alloc, World.size_setCell, size_drew] at z2
        have B2 : Below w.heap.size w w2 := Below.t b2
        have xk_ : Box w2 (w.heap.size) #[.int .i64 kI0, (.slice kA1 kn1 kc1)] 33 := xk.below b2 (by first | omega | (simp [size_drew]; done) | (simp [size_drew]; omega))
        clear xk; have xk := xk_; clear xk_
        have xt_ : Box w2 (w.heap.size + 1) #[.int .i64 tI0, .int .i64 tI1] 40 := xt.below b2 (by first | omega | (simp [size_drew]; done) | (simp [size_drew]; omega))
        clear xt; have xt := xt_; clear xt_
        have xr_ : Box w2 (w.heap.size + 1 + 1) #[.slice none 0 0, .slice none 0 0] 38 := xr.below b2 (by first | omega | (simp [size_drew]; done) | (simp [size_drew]; omega))
        clear xr; have xr := xr_; clear xr_
        have xq_ : Box w2 (w.heap.size + 1 + 1 + 1) #[.int .i64 0, .int .i64 0] 40 := xq.below b2 (by first | omega | (simp [size_drew]; done) | (simp [size_drew]; omega))
        clear xq; have xq := xq_; clear xq_
        obtain ⟨cxt_0, cxt_1, fxt_0, fxt_1⟩ := xt.two
        have l_xt_0 : w.heap.size + 1 < w2.heap.size := by omega
        go_wp2_with fail
        clear cxt_0 cxt_1 fxt_0 fxt_1 l_xt_0
        refine wp_region_held_drew (S := fun W => W.cell? ⟨w.heap.size + 1, 0, none⟩ = some (.int .i64 tI0) ∧ W.cell? ⟨w.heap.size + 1, 1, none⟩ = some (.int .i64 tI1)) (by kernel_rfl) ⟨xt.drew.two.1, xt.drew.two.2.1⟩ (fun hS => ?_)
        (refine tk 0 hS ?_; (try simp only [Act.put, layA, layB, layC]))
        (refine tk 1 hS ?_; (try simp only [Act.put, layA, layB, layC]))
        refine on 2 ?_
        obtain ⟨cxr_0, cxr_1, fxr_0, fxr_1⟩ := xr.two
        refine skipH (by go_simp; (first | done | with_reducible rfl | exact ⟨rfl, rfl⟩)) ?_ (fun hS_ => ?_)
        · exact ⟨((xt.far (by omega)).far (by omega)).drew.two.1, ((xt.far (by omega)).far (by omega)).drew.two.2.1⟩
        clear cxr_0 cxr_1 fxr_0 fxr_1
        clear hS
        have hS := hS_
        clear hS_
        (try simp only [Act.put, layA, layB, layC])
        refine on 3 ?_
        obtain ⟨cxq_0, cxq_1, fxq_0, fxq_1⟩ := xq.two
        refine skipH (by go_simp; (first | done | with_reducible rfl | exact ⟨rfl, rfl⟩)) ?_ (fun hS_ => ?_)
        · exact ⟨((((xt.far (by omega)).far (by omega)).far (by omega)).far (by omega)).drew.two.1, ((((xt.far (by omega)).far (by omega)).far (by omega)).far (by omega)).drew.two.2.1⟩
        clear cxq_0 cxq_1 fxq_0 fxq_1
        clear hS
        have hS := hS_
        clear hS_
        (try simp only [Act.put, layA, layB, layC])
        clear hS
        refine wpAnyH_done (by kernel_rfl) ?_ _
        obtain ⟨cxr_0, cxr_1, fxr_0, fxr_1⟩ := xr.two
        have l_xr_0 : w.heap.size + 1 + 1 < w2.heap.size := by omega
        obtain ⟨cxq_0, cxq_1, fxq_0, fxq_1⟩ := xq.two
        have l_xq_0 : w.heap.size + 1 + 1 + 1 < w2.heap.size := by omega
        go_wp2
        refine bodyPost_ret (v := .tuple #[.agg #[.slice none 0 0, .slice none 0 0], .agg #[.int .i64 tI0, .int .i64 tI1]]) ?_ rfl ⟨none, 0, 0, none, 0, 0, by rw [nT_no HO.out], ?_, ?_⟩
        · simp [results, Try.results38, go_sem, cxr_0, cxr_1, fxr_0, fxr_1, l_xr_0, cxq_0, cxq_1, fxq_0, fxq_1, l_xq_0]
        · rw [nS_no HO.out, nM_no HO.out]; exact OwnL.nones _ (by simp) (by first | omega | (simp [size_drew]; done) | (simp [size_drew]; omega))
        · repeat (with_reducible (first | assumption | exact Below.refl _ _ | refine Below.alloc ?_ (by first | omega | (simp; done) | (simp; omega)) _ | refine Below.setCell ?_ (by first | omega | (simp; done) | (simp; omega)) _ | refine Below.drew ?_ | refine below_drewN ?_ _))
      | true =>
        cases k4 : decide ((900000 : Int) < tI1) with
        | true =>
          have q4 : decide (tI1 ≤ 900000) = false := by simp at k4 ⊢; omega
          have HO : Hid (nOk kI0 kL1 xI0 tI0 tI1 = false) := by show _ = _; simp [nOk, t9, k1, k2, k3, q4]
          go_enter Try.func38, Try.ntmps38
          go_wp2_with fail
          refine (iKeysOk_L kI0 (RdL.b kH) kL1n).mono ?_
          rintro e w1 ⟨rfl, b1⟩
          have z1 := b1.size
          try simp only [World.size_alloc, World.size_setCell, size_drew] at z1
          have B1 : Below w.heap.size w w1 := Below.t b1
          have xk_ : Box w1 (w.heap.size) #[.int .i64 kI0, (.slice kA1 kn1 kc1)] 33 := ((((Box.new (g := w.heap.size) _ #[.int .i64 kI0, (.slice kA1 kn1 kc1)] 33 (by simp)).alloc _).alloc _).alloc _).below b1 (by first | omega | (simp [size_drew]; done) | (simp [size_drew]; omega))
          have xk := xk_; clear xk_
          have xt_ : Box w1 (w.heap.size + 1) #[.int .i64 tI0, .int .i64 tI1] 40 := (((Box.new (g := w.heap.size + 1) _ #[.int .i64 tI0, .int .i64 tI1] 40 (by simp)).alloc _).alloc _).below b1 (by first | omega | (simp [size_drew]; done) | (simp [size_drew]; omega))
          have xt := xt_; clear xt_
          have xr_ : Box w1 (w.heap.size + 1 + 1) #[.slice none 0 0, .slice none 0 0] 38 := ((Box.new (g := w.heap.size + 1 + 1) _ #[.slice none 0 0, .slice none 0 0] 38 (by simp)).alloc _).below b1 (by first | omega | (simp [size_drew]; done) | (simp [size_drew]; omega))
          have xr := xr_; clear xr_
          have xq_ : Box w1 (w.heap.size + 1 + 1 + 1) #[.int .i64 0, .int .i64 0] 40 := (Box.new (g := w.heap.size + 1 + 1 + 1) _ #[.int .i64 0, .int .i64 0] 40 (by simp)).below b1 (by first | omega | (simp [size_drew]; done) | (simp [size_drew]; omega))
          have xq := xq_; clear xq_
          obtain ⟨cxk_0, cxk_1, fxk_0, fxk_1⟩ := xk.two
          have l_xk_0 : w.heap.size < w1.heap.size := by omega
          go_wp2_with fail
          clear cxk_0 cxk_1 fxk_0 fxk_1 l_xk_0
          refine (iIsElement_any _ _ _).mono ?_
          rintro e w_ ⟨rfl, rfl⟩
          obtain ⟨cxt_0, cxt_1, fxt_0, fxt_1⟩ := xt.two
          have l_xt_0 : w.heap.size + 1 < w1.heap.size := by omega
          go_wp2_with fail
          refine (iTapeOk_any tI0 tI1 _).mono ?_
          rintro e w2 ⟨rfl, b2⟩
          clear cxt_0 cxt_1 fxt_0 fxt_1 l_xt_0
          have z2 := b2.size
          try simp only [World.size_alloc, World.size_setCell, size_drew] at z2
          have B2 : Below w.heap.size w w2 := Below.t b2
          have xk_ : Box w2 (w.heap.size) #[.int .i64 kI0, (.slice kA1 kn1 kc1)] 33 := xk.below b2 (by first | omega | (simp [size_drew]; done) | (simp [size_drew]; omega))
          clear xk; have xk := xk_; clear xk_
          have xt_ : Box w2 (w.heap.size + 1) #[.int .i64 tI0, .int .i64 tI1] 40 := xt.below b2 (by first | omega | (simp [size_drew]; done) | (simp [size_drew]; omega))
          clear xt; have xt := xt_; clear xt_
          have xr_ : Box w2 (w.heap.size + 1 + 1) #[.slice none 0 0, .slice none 0 0] 38 := xr.below b2 (by first | omega | (simp [size_drew]; done) | (simp [size_drew]; omega))
          clear xr; have xr := xr_; clear xr_
          have xq_ : Box w2 (w.heap.size + 1 + 1 + 1) #[.int .i64 0, .int .i64 0] 40 := xq.below b2 (by first | omega | (simp [size_drew]; done) | (simp [size_drew]; omega))
          clear xq; have xq := xq_; clear xq_
          obtain ⟨cxt_0, cxt_1, fxt_0, fxt_1⟩ := xt.two
          have l_xt_0 : w.heap.size + 1 < w2.heap.size := by omega
          go_wp2_with fail
          clear cxt_0 cxt_1 fxt_0 fxt_1 l_xt_0
          refine wp_region_held_drew (S := fun W => W.cell? ⟨w.heap.size + 1, 0, none⟩ = some (.int .i64 tI0) ∧ W.cell? ⟨w.heap.size + 1, 1, none⟩ = some (.int .i64 tI1)) (by kernel_rfl) ⟨xt.drew.two.1, xt.drew.two.2.1⟩ (fun hS => ?_)
          (refine tk 0 hS ?_; (try simp only [Act.put, layA, layB, layC]))
          (refine tk 1 hS ?_; (try simp only [Act.put, layA, layB, layC]))
          refine on 2 ?_
          obtain ⟨cxr_0, cxr_1, fxr_0, fxr_1⟩ := xr.two
          refine skipH (by go_simp; (first | done | with_reducible rfl | exact ⟨rfl, rfl⟩)) ?_ (fun hS_ => ?_)
          · exact ⟨((xt.far (by omega)).far (by omega)).drew.two.1, ((xt.far (by omega)).far (by omega)).drew.two.2.1⟩
          clear cxr_0 cxr_1 fxr_0 fxr_1
          clear hS
          have hS := hS_
          clear hS_
          (try simp only [Act.put, layA, layB, layC])
          refine on 3 ?_
          obtain ⟨cxq_0, cxq_1, fxq_0, fxq_1⟩ := xq.two
          refine skipH (by go_simp; (first | done | with_reducible rfl | exact ⟨rfl, rfl⟩)) ?_ (fun hS_ => ?_)
          · exact ⟨((((xt.far (by omega)).far (by omega)).far (by omega)).far (by omega)).drew.two.1, ((((xt.far (by omega)).far (by omega)).far (by omega)).far (by omega)).drew.two.2.1⟩
          clear cxq_0 cxq_1 fxq_0 fxq_1
          clear hS
          have hS := hS_
          clear hS_
          (try simp only [Act.put, layA, layB, layC])
          clear hS
          refine wpAnyH_done (by kernel_rfl) ?_ _
          obtain ⟨cxr_0, cxr_1, fxr_0, fxr_1⟩ := xr.two
          have l_xr_0 : w.heap.size + 1 + 1 < w2.heap.size := by omega
          obtain ⟨cxq_0, cxq_1, fxq_0, fxq_1⟩ := xq.two
          have l_xq_0 : w.heap.size + 1 + 1 + 1 < w2.heap.size := by omega
          go_wp2
          refine bodyPost_ret (v := .tuple #[.agg #[.slice none 0 0, .slice none 0 0], .agg #[.int .i64 tI0, .int .i64 tI1]]) ?_ rfl ⟨none, 0, 0, none, 0, 0, by rw [nT_no HO.out], ?_, ?_⟩
          · simp [results, Try.results38, go_sem, cxr_0, cxr_1, fxr_0, fxr_1, l_xr_0, cxq_0, cxq_1, fxq_0, fxq_1, l_xq_0]
          · rw [nS_no HO.out, nM_no HO.out]; exact OwnL.nones _ (by simp) (by first | omega | (simp [size_drew]; done) | (simp [size_drew]; omega))
          · repeat (with_reducible (first | assumption | exact Below.refl _ _ | refine Below.alloc ?_ (by first | omega | (simp; done) | (simp; omega)) _ | refine Below.setCell ?_ (by first | omega | (simp; done) | (simp; omega)) _ | refine Below.drew ?_ | refine below_drewN ?_ _))
        | false =>
          have q4 : decide (tI1 ≤ 900000) = true := by simp at k4 ⊢; omega
          have HO : Hid (nOk kI0 kL1 xI0 tI0 tI1 = true) := by show _ = _; simp [nOk, t9, k1, k2, k3, q4]
          go_enter Try.func38, Try.ntmps38
          go_wp2_with fail
          refine (iKeysOk_L kI0 (RdL.b kH) kL1n).mono ?_
          rintro e w1 ⟨rfl, b1⟩
          have z1 := b1.size
          try simp only [World.size_alloc, World.size_setCell, size_drew] at z1
          have B1 : Below w.heap.size w w1 := Below.t b1
          have xk_ : Box w1 (w.heap.size) #[.int .i64 kI0, (.slice kA1 kn1 kc1)] 33 := ((((Box.new (g := w.heap.size) _ #[.int .i64 kI0, (.slice kA1 kn1 kc1)] 33 (by simp)).alloc _).alloc _).alloc _).below b1 (by first | omega | (simp [size_drew]; done) | (simp [size_drew]; omega))
          have xk := xk_; clear xk_
          have xt_ : Box w1 (w.heap.size + 1) #[.int .i64 tI0, .int .i64 tI1] 40 := (((Box.new (g := w.heap.size + 1) _ #[.int .i64 tI0, .int .i64 tI1] 40 (by simp)).alloc _).alloc _).below b1 (by first | omega | (simp [size_drew]; done) | (simp [size_drew]; omega))
          have xt := xt_; clear xt_
          have xr_ : Box w1 (w.heap.size + 1 + 1) #[.slice none 0 0, .slice none 0 0] 38 := ((Box.new (g := w.heap.size + 1 + 1) _ #[.slice none 0 0, .slice none 0 0] 38 (by simp)).alloc _).below b1 (by first | omega | (simp [size_drew]; done) | (simp [size_drew]; omega))
          have xr := xr_; clear xr_
          have xq_ : Box w1 (w.heap.size + 1 + 1 + 1) #[.int .i64 0, .int .i64 0] 40 := (Box.new (g := w.heap.size + 1 + 1 + 1) _ #[.int .i64 0, .int .i64 0] 40 (by simp)).below b1 (by first | omega | (simp [size_drew]; done) | (simp [size_drew]; omega))
          have xq := xq_; clear xq_
          obtain ⟨cxk_0, cxk_1, fxk_0, fxk_1⟩ := xk.two
          have l_xk_0 : w.heap.size < w1.heap.size := by omega
          go_wp2_with fail
          clear cxk_0 cxk_1 fxk_0 fxk_1 l_xk_0
          refine (iIsElement_any _ _ _).mono ?_
          rintro e w_ ⟨rfl, rfl⟩
          obtain ⟨cxt_0, cxt_1, fxt_0, fxt_1⟩ := xt.two
          have l_xt_0 : w.heap.size + 1 < w1.heap.size := by omega
          go_wp2_with fail
          refine (iTapeOk_any tI0 tI1 _).mono ?_
          rintro e w2 ⟨rfl, b2⟩
          clear cxt_0 cxt_1 fxt_0 fxt_1 l_xt_0
          have z2 := b2.size
          try simp only [World.size_alloc, World.size_setCell, size_drew] at z2
          have B2 : Below w.heap.size w w2 := Below.t b2
          have xk_ : Box w2 (w.heap.size) #[.int .i64 kI0, (.slice kA1 kn1 kc1)] 33 := xk.below b2 (by first | omega | (simp [size_drew]; done) | (simp [size_drew]; omega))
          clear xk; have xk := xk_; clear xk_
          have xt_ : Box w2 (w.heap.size + 1) #[.int .i64 tI0, .int .i64 tI1] 40 := xt.below b2 (by first | omega | (simp [size_drew]; done) | (simp [size_drew]; omega))
          clear xt; have xt := xt_; clear xt_
          have xr_ : Box w2 (w.heap.size + 1 + 1) #[.slice none 0 0, .slice none 0 0] 38 := xr.below b2 (by first | omega | (simp [size_drew]; done) | (simp [size_drew]; omega))
          clear xr; have xr := xr_; clear xr_
          have xq_ : Box w2 (w.heap.size + 1 + 1 + 1) #[.int .i64 0, .int .i64 0] 40 := xq.below b2 (by first | omega | (simp [size_drew]; done) | (simp [size_drew]; omega))
          clear xq; have xq := xq_; clear xq_
          have kb := keysOk_iff.1 k1
          have kb1 : (1 : Int) ≤ kn1 ∧ (kn1 : Int) ≤ 5 := by have := kL1l.out; omega
          obtain ⟨kb2, kb3⟩ := kb1
          have hnk := Lib.hid (show nK kL1 = (kn1 : Int) - 1 by rw [nK, kL1l.out])
          clear kb
          obtain ⟨cxk_0, cxk_1, fxk_0, fxk_1⟩ := xk.two
          have l_xk_0 : w.heap.size < w2.heap.size := by omega
          have l_xk_1 : w.heap.size < w2.heap.size + 1 := by omega
          obtain ⟨cxt_0, cxt_1, fxt_0, fxt_1⟩ := xt.two
          have l_xt_0 : w.heap.size + 1 < w2.heap.size := by omega
          have l_xt_1 : w.heap.size + 1 < w2.heap.size + 1 := by omega
          go_wp2_with fail
          refine (ishared_L kI0 xI0 (kn1 : Int) tI0 tI1 ⟨kb2, kb3⟩).mono ?_
          rintro e w3 ⟨pA, pn, pc, rfl, r0, b3⟩
          clear cxk_0 cxk_1 fxk_0 fxk_1 l_xk_0 l_xk_1 cxt_0 cxt_1 fxt_0 fxt_1 l_xt_0 l_xt_1
          have z3 := b3.size
          try simp only [World.size_alloc, World.size_setCell, size_drew] at z3
          have B3 : Below w.heap.size w w3 := Below.t b3
          have xk_ : Box w3 (w.heap.size) #[.int .i64 kI0, (.slice kA1 kn1 kc1)] 33 := (xk.alloc _).below b3 (by first | omega | (simp [size_drew]; done) | (simp [size_drew]; omega))
          clear xk; have xk := xk_; clear xk_
          have xt_ : Box w3 (w.heap.size + 1) #[.int .i64 tI0, .int .i64 tI1] 40 := (xt.alloc _).below b3 (by first | omega | (simp [size_drew]; done) | (simp [size_drew]; omega))
          clear xt; have xt := xt_; clear xt_
          have xr_ : Box w3 (w.heap.size + 1 + 1) #[.slice none 0 0, .slice none 0 0] 38 := (xr.alloc _).below b3 (by first | omega | (simp [size_drew]; done) | (simp [size_drew]; omega))
          clear xr; have xr := xr_; clear xr_
          have xq_ : Box w3 (w.heap.size + 1 + 1 + 1) #[.int .i64 0, .int .i64 0] 40 := (xq.alloc _).below b3 (by first | omega | (simp [size_drew]; done) | (simp [size_drew]; omega))
          clear xq; have xq := xq_; clear xq_
          have xa_ : Box w3 (w2.heap.size) #[.slice none 0 0, .slice none 0 0] 38 := (Box.new (g := w2.heap.size) _ #[.slice none 0 0, .slice none 0 0] 38 (by simp)).below b3 (by first | omega | (simp [size_drew]; done) | (simp [size_drew]; omega))
          have xa := xa_; clear xa_
          try simp only [World.size_alloc, World.size_setCell, size_drew] at r0
          obtain ⟨cxa_0, cxa_1, fxa_0, fxa_1⟩ := xa.two
          have l_xa_0 : w2.heap.size < w3.heap.size := by omega
          obtain ⟨cxt_0, cxt_1, fxt_0, fxt_1⟩ := xt.two
          have l_xt_0 : w.heap.size + 1 < w3.heap.size := by omega
          obtain ⟨cxk_0, cxk_1, fxk_0, fxk_1⟩ := xk.two
          have l_xk_0 : w.heap.size < w3.heap.size := by omega
          go_wp2_with fail
          clear cxa_0 cxa_1 fxa_0 fxa_1 l_xa_0 cxt_0 cxt_1 fxt_0 fxt_1 l_xt_0 cxk_0 cxk_1 fxk_0 fxk_1 l_xk_0
          generalize hw4 : World.setCell _ _ _ = w4
          have z4 : w3.heap.size ≤ w4.heap.size := by rw [← hw4]; simp
          have B4 : Below w.heap.size w w4 := by rw [← hw4]; repeat (with_reducible (first | assumption | exact Below.refl _ _ | refine Below.alloc ?_ (by first | omega | (simp; done) | (simp; omega)) _ | refine Below.setCell ?_ (by first | omega | (simp; done) | (simp; omega)) _ | refine Below.drew ?_ | refine below_drewN ?_ _))
          have hK : ∀ k, k ≠ w2.heap.size → k ≠ w.heap.size + 1 → k < w3.heap.size → w4.heap[k]? = w3.heap[k]? := by
            intro k h0 h1 hk; rw [← hw4]
            repeat (first | rfl | refine (Below.heap_setCell _ _ _ _ (by first | exact h0 | exact h1)).trans ?_ | refine (Below.heap_alloc _ _ _ (by first | omega | (simp; omega))).trans ?_)
          have r0_ := r0.keepBlock (w' := w4) (by omega) (fun k h1 h2 => hK k (by omega) (by omega) (by have := r0.2.1; omega))
          clear r0; have r0 := r0_; clear r0_
          have xk_ : Box w4 (w.heap.size) #[.int .i64 kI0, (.slice kA1 kn1 kc1)] 33 := (by rw [← hw4]; exact (((xk.far (by omega)).far (by omega)).far (by omega)))
          clear xk; have xk := xk_; clear xk_
          have xt_ : Box w4 (w.heap.size + 1) #[.int .i64 tI0, .int .i64 (tapeLN tI0 tI1 kI0 ((kn1 : Int) - 1))] 40 := (by rw [← hw4]; exact (((xt.far (by omega)).setAt (i := 0) (v := .int .i64 tI0) (ds := #[.int .i64 tI0, .int .i64 tI1]) (by simp)).setAt (i := 1) (v := .int .i64 (tapeLN tI0 tI1 kI0 ((kn1 : Int) - 1))) (ds := #[.int .i64 tI0, .int .i64 (tapeLN tI0 tI1 kI0 ((kn1 : Int) - 1))]) (by simp)))
          clear xt; have xt := xt_; clear xt_
          have xr_ : Box w4 (w.heap.size + 1 + 1) #[.slice none 0 0, .slice none 0 0] 38 := (by rw [← hw4]; exact (((xr.far (by omega)).far (by omega)).far (by omega)))
          clear xr; have xr := xr_; clear xr_
          have xq_ : Box w4 (w.heap.size + 1 + 1 + 1) #[.int .i64 0, .int .i64 0] 40 := (by rw [← hw4]; exact (((xq.far (by omega)).far (by omega)).far (by omega)))
          clear xq; have xq := xq_; clear xq_
          have xa_ : Box w4 (w2.heap.size) #[.slice pA pn pc, .slice none 0 0] 38 := (by rw [← hw4]; exact (((xa.setAt (i := 0) (v := .slice pA pn pc) (ds := #[.slice pA pn pc, .slice none 0 0]) (by simp)).far (by omega)).far (by omega)))
          clear xa; have xa := xa_; clear xa_
          clear hw4 hK
          obtain ⟨cxk_0, cxk_1, fxk_0, fxk_1⟩ := xk.two
          have l_xk_0 : w.heap.size < w4.heap.size := by omega
          obtain ⟨cxt_0, cxt_1, fxt_0, fxt_1⟩ := xt.two
          have l_xt_0 : w.heap.size + 1 < w4.heap.size := by omega
          go_wp2_with fail
          clear cxk_0 cxk_1 fxk_0 fxk_1 l_xk_0 cxt_0 cxt_1 fxt_0 fxt_1 l_xt_0
          refine wp_region_M [20, 21] (w4.heap.size) 22 (S := fun W => Below w.heap.size w W ∧ Below w4.heap.size w4 W ∧ W.cell? ⟨w.heap.size, 0, none⟩ = some (.int .i64 kI0) ∧ W.cell? ⟨w.heap.size, 1, none⟩ = some ((.slice kA1 kn1 kc1)) ∧ W.cell? ⟨w.heap.size + 1, 0, none⟩ = some (.int .i64 tI0) ∧ W.cell? ⟨w.heap.size + 1, 1, none⟩ = some (.int .i64 (tapeLN tI0 tI1 kI0 ((kn1 : Int) - 1)))) (by kernel_rfl) (by rfl) (fun W hW => ⟨Below.trans (b := _) (by repeat (with_reducible (first | assumption | exact Below.refl _ _ | refine Below.alloc ?_ (by first | omega | (simp; done) | (simp; omega)) _ | refine Below.setCell ?_ (by first | omega | (simp; done) | (simp; omega)) _ | refine Below.drew ?_ | refine below_drewN ?_ _))) (Below.mono hW (by first | omega | (simp [size_drew]; done) | (simp [size_drew]; omega))), Below.trans (b := _) (by repeat (with_reducible (first | assumption | exact Below.refl _ _ | refine Below.alloc ?_ (by first | omega | (simp; done) | (simp; omega)) _ | refine Below.setCell ?_ (by first | omega | (simp; done) | (simp; omega)) _ | refine Below.drew ?_ | refine below_drewN ?_ _))) (Below.mono hW (by first | omega | (simp [size_drew]; done) | (simp [size_drew]; omega))), (Box.below xk.drew hW (by first | omega | (simp [size_drew]; done) | (simp [size_drew]; omega))).two.1, (Box.below xk.drew hW (by first | omega | (simp [size_drew]; done) | (simp [size_drew]; omega))).two.2.1, (Box.below xt.drew hW (by first | omega | (simp [size_drew]; done) | (simp [size_drew]; omega))).two.1, (Box.below xt.drew hW (by first | omega | (simp [size_drew]; done) | (simp [size_drew]; omega))).two.2.1⟩) (by first | omega | (simp [size_drew]; done) | (simp [size_drew]; omega)) (fun hS hG => ?_)
          (try dsimp only at hS)
          (refine tkM 0 hG hS ?_; (try simp only [Act.put, layA, layB, layC]))
          (refine tkM 1 hG hS ?_; (try simp only [Act.put, layA, layB, layC]))
          (refine tkM 2 hG hS ?_; (try simp only [Act.put, layA, layB, layC]))
          (refine tkM 3 hG hS ?_; (try simp only [Act.put, layA, layB, layC]))
          (refine tkM 4 hG hS ?_; (try simp only [Act.put, layA, layB, layC]))
          (refine tkM 5 hG hS ?_; (try simp only [Act.put, layA, layB, layC]))
          (refine tkM 6 hG hS ?_; (try simp only [Act.put, layA, layB, layC]))
          (refine tkM 7 hG hS ?_; (try simp only [Act.put, layA, layB, layC]))
          (refine tkM 8 hG hS ?_; (try simp only [Act.put, layA, layB, layC]))
          (refine tkM 11 hG hS ?_; (try simp only [Act.put, layA, layB, layC]))
          (refine tkM 12 hG hS ?_; (try simp only [Act.put, layA, layB, layC]))
          (refine tkM 13 hG hS ?_; (try simp only [Act.put, layA, layB, layC]))
          (refine tkM 14 hG hS ?_; (try simp only [Act.put, layA, layB, layC]))
          refine callM hG (i := 9) (by simp only [List.getElem?_toArray, List.getElem?_cons_succ, List.getElem?_cons_zero] <;> rfl) (by kernel_rfl) (by rfl) (by rfl) (by intro W hW; have hSw := hS W hW; (try dsimp only at hSw); go_simp; (first | done | with_reducible rfl | exact ⟨rfl, rfl⟩)) ?_
          intro w5 b5
          have B5 : Below w.heap.size w w5 := (hS w5 b5).1
          have z5 := Below.size b5
          (try simp only [World.size_alloc, World.size_setCell, size_drew] at z5)
          have r0_ := (r0.drew.below b5)
          clear r0; have r0 := r0_; clear r0_
          have xk_ : Box w5 (w.heap.size) #[.int .i64 kI0, (.slice kA1 kn1 kc1)] 33 := (Box.b xk.drew b5)
          clear xk; have xk := xk_; clear xk_
          have xt_ : Box w5 (w.heap.size + 1) #[.int .i64 tI0, .int .i64 (tapeLN tI0 tI1 kI0 ((kn1 : Int) - 1))] 40 := (Box.b xt.drew b5)
          clear xt; have xt := xt_; clear xt_
          have xr_ : Box w5 (w.heap.size + 1 + 1) #[.slice none 0 0, .slice none 0 0] 38 := (Box.b xr.drew b5)
          clear xr; have xr := xr_; clear xr_
          have xq_ : Box w5 (w.heap.size + 1 + 1 + 1) #[.int .i64 0, .int .i64 0] 40 := (Box.b xq.drew b5)
          clear xq; have xq := xq_; clear xq_
          have xa_ : Box w5 (w2.heap.size) #[.slice pA pn pc, .slice none 0 0] 38 := (Box.b xa.drew b5)
          clear xa; have xa := xa_; clear xa_
          clear hS hG
          go_at_call 102
          refine (iFSum_any _ _ _ _ _ _ kL1i.b (by omega)).mono ?_
          rintro e w_ ⟨rfl, rfl⟩
          refine ⟨_, rfl, Later.refl _, fun hG => ?_⟩
          (try simp only [Act.put, layA, layB, layC])
          have hS : ∀ W, Later w5 W → (Below w.heap.size w W ∧ Below w5.heap.size w5 W ∧ W.cell? ⟨w.heap.size, 0, none⟩ = some (.int .i64 kI0) ∧ W.cell? ⟨w.heap.size, 1, none⟩ = some ((.slice kA1 kn1 kc1)) ∧ W.cell? ⟨w.heap.size + 1, 0, none⟩ = some (.int .i64 tI0) ∧ W.cell? ⟨w.heap.size + 1, 1, none⟩ = some (.int .i64 (tapeLN tI0 tI1 kI0 ((kn1 : Int) - 1)))) := fun W hW => ⟨Below.trans (b := _) (by repeat (with_reducible (first | assumption | exact Below.refl _ _ | refine Below.alloc ?_ (by first | omega | (simp; done) | (simp; omega)) _ | refine Below.setCell ?_ (by first | omega | (simp; done) | (simp; omega)) _ | refine Below.drew ?_ | refine below_drewN ?_ _))) (Below.mono hW (by first | omega | (simp [size_drew]; done) | (simp [size_drew]; omega))), Below.trans (b := _) (by repeat (with_reducible (first | assumption | exact Below.refl _ _ | refine Below.alloc ?_ (by first | omega | (simp; done) | (simp; omega)) _ | refine Below.setCell ?_ (by first | omega | (simp; done) | (simp; omega)) _ | refine Below.drew ?_ | refine below_drewN ?_ _))) (Below.mono hW (by first | omega | (simp [size_drew]; done) | (simp [size_drew]; omega))), (Box.below xk hW (by first | omega | (simp [size_drew]; done) | (simp [size_drew]; omega))).two.1, (Box.below xk hW (by first | omega | (simp [size_drew]; done) | (simp [size_drew]; omega))).two.2.1, (Box.below xt hW (by first | omega | (simp [size_drew]; done) | (simp [size_drew]; omega))).two.1, (Box.below xt hW (by first | omega | (simp [size_drew]; done) | (simp [size_drew]; omega))).two.2.1⟩
          refine callM hG (i := 10) (by simp only [List.getElem?_toArray, List.getElem?_cons_succ, List.getElem?_cons_zero] <;> rfl) (by kernel_rfl) (by rfl) (by rfl) (by intro W hW; have hSw := hS W hW; (try dsimp only at hSw); go_simp; (first | done | with_reducible rfl | exact ⟨rfl, rfl⟩)) ?_
          intro w6 b6
          have B6 : Below w.heap.size w w6 := (hS w6 b6).1
          have z6 := Below.size b6
          (try simp only [World.size_alloc, World.size_setCell, size_drew] at z6)
          have r0_ := (r0.below b6)
          clear r0; have r0 := r0_; clear r0_
          have xk_ : Box w6 (w.heap.size) #[.int .i64 kI0, (.slice kA1 kn1 kc1)] 33 := (Box.b xk b6)
          clear xk; have xk := xk_; clear xk_
          have xt_ : Box w6 (w.heap.size + 1) #[.int .i64 tI0, .int .i64 (tapeLN tI0 tI1 kI0 ((kn1 : Int) - 1))] 40 := (Box.b xt b6)
          clear xt; have xt := xt_; clear xt_
          have xr_ : Box w6 (w.heap.size + 1 + 1) #[.slice none 0 0, .slice none 0 0] 38 := (Box.b xr b6)
          clear xr; have xr := xr_; clear xr_
          have xq_ : Box w6 (w.heap.size + 1 + 1 + 1) #[.int .i64 0, .int .i64 0] 40 := (Box.b xq b6)
          clear xq; have xq := xq_; clear xq_
          have xa_ : Box w6 (w2.heap.size) #[.slice pA pn pc, .slice none 0 0] 38 := (Box.b xa b6)
          clear xa; have xa := xa_; clear xa_
          clear hS hG
          go_at_call 101
          refine (iFMul_any _ _ _ _).mono ?_
          rintro e w7 ⟨rfl, b7⟩
          refine ⟨_, rfl, b7, fun hG => ?_⟩
          have z7 := Below.size b7
          have B7 : Below w.heap.size w w7 := Below.t b7
          have r0_ := (r0.below b7)
          clear r0; have r0 := r0_; clear r0_
          have xk_ : Box w7 (w.heap.size) #[.int .i64 kI0, (.slice kA1 kn1 kc1)] 33 := (Box.b xk b7)
          clear xk; have xk := xk_; clear xk_
          have xt_ : Box w7 (w.heap.size + 1) #[.int .i64 tI0, .int .i64 (tapeLN tI0 tI1 kI0 ((kn1 : Int) - 1))] 40 := (Box.b xt b7)
          clear xt; have xt := xt_; clear xt_
          have xr_ : Box w7 (w.heap.size + 1 + 1) #[.slice none 0 0, .slice none 0 0] 38 := (Box.b xr b7)
          clear xr; have xr := xr_; clear xr_
          have xq_ : Box w7 (w.heap.size + 1 + 1 + 1) #[.int .i64 0, .int .i64 0] 40 := (Box.b xq b7)
          clear xq; have xq := xq_; clear xq_
          have xa_ : Box w7 (w2.heap.size) #[.slice pA pn pc, .slice none 0 0] 38 := (Box.b xa b7)
          clear xa; have xa := xa_; clear xa_
          (try simp only [Act.put, layA, layB, layC])
          have hS : ∀ W, Later w7 W → (Below w.heap.size w W ∧ Below w7.heap.size w7 W ∧ W.cell? ⟨w.heap.size, 0, none⟩ = some (.int .i64 kI0) ∧ W.cell? ⟨w.heap.size, 1, none⟩ = some ((.slice kA1 kn1 kc1)) ∧ W.cell? ⟨w.heap.size + 1, 0, none⟩ = some (.int .i64 tI0) ∧ W.cell? ⟨w.heap.size + 1, 1, none⟩ = some (.int .i64 (tapeLN tI0 tI1 kI0 ((kn1 : Int) - 1)))) := fun W hW => ⟨Below.trans (b := _) (by repeat (with_reducible (first | assumption | exact Below.refl _ _ | refine Below.alloc ?_ (by first | omega | (simp; done) | (simp; omega)) _ | refine Below.setCell ?_ (by first | omega | (simp; done) | (simp; omega)) _ | refine Below.drew ?_ | refine below_drewN ?_ _))) (Below.mono hW (by first | omega | (simp [size_drew]; done) | (simp [size_drew]; omega))), Below.trans (b := _) (by repeat (with_reducible (first | assumption | exact Below.refl _ _ | refine Below.alloc ?_ (by first | omega | (simp; done) | (simp; omega)) _ | refine Below.setCell ?_ (by first | omega | (simp; done) | (simp; omega)) _ | refine Below.drew ?_ | refine below_drewN ?_ _))) (Below.mono hW (by first | omega | (simp [size_drew]; done) | (simp [size_drew]; omega))), (Box.below xk hW (by first | omega | (simp [size_drew]; done) | (simp [size_drew]; omega))).two.1, (Box.below xk hW (by first | omega | (simp [size_drew]; done) | (simp [size_drew]; omega))).two.2.1, (Box.below xt hW (by first | omega | (simp [size_drew]; done) | (simp [size_drew]; omega))).two.1, (Box.below xt hW (by first | omega | (simp [size_drew]; done) | (simp [size_drew]; omega))).two.2.1⟩
          refine callM hG (i := 15) (by simp only [List.getElem?_toArray, List.getElem?_cons_succ, List.getElem?_cons_zero] <;> rfl) (by kernel_rfl) (by rfl) (by rfl) (by intro W hW; have hSw := hS W hW; (try dsimp only at hSw); go_simp; (first | done | with_reducible rfl | exact ⟨rfl, rfl⟩)) ?_
          intro w8 b8
          have B8 : Below w.heap.size w w8 := (hS w8 b8).1
          have z8 := Below.size b8
          (try simp only [World.size_alloc, World.size_setCell, size_drew] at z8)
          have r0_ := (r0.below b8)
          clear r0; have r0 := r0_; clear r0_
          have xk_ : Box w8 (w.heap.size) #[.int .i64 kI0, (.slice kA1 kn1 kc1)] 33 := (Box.b xk b8)
          clear xk; have xk := xk_; clear xk_
          have xt_ : Box w8 (w.heap.size + 1) #[.int .i64 tI0, .int .i64 (tapeLN tI0 tI1 kI0 ((kn1 : Int) - 1))] 40 := (Box.b xt b8)
          clear xt; have xt := xt_; clear xt_
          have xr_ : Box w8 (w.heap.size + 1 + 1) #[.slice none 0 0, .slice none 0 0] 38 := (Box.b xr b8)
          clear xr; have xr := xr_; clear xr_
          have xq_ : Box w8 (w.heap.size + 1 + 1 + 1) #[.int .i64 0, .int .i64 0] 40 := (Box.b xq b8)
          clear xq; have xq := xq_; clear xq_
          have xa_ : Box w8 (w2.heap.size) #[.slice pA pn pc, .slice none 0 0] 38 := (Box.b xa b8)
          clear xa; have xa := xa_; clear xa_
          clear hS hG
          go_at_call 100
          refine (ishared_L kI0 (fmul kI0 xI0 (fsum kI0 kL1)) (kn1 : Int) tI0 (tapeLN tI0 tI1 kI0 ((kn1 : Int) - 1)) ⟨kb2, kb3⟩).mono ?_
          rintro e w9 ⟨qA, qn, qc, rfl, r1, b9⟩
          refine ⟨_, rfl, b9, fun hG => ?_⟩
          have z9 := Below.size b9
          have B9 : Below w.heap.size w w9 := Below.t b9
          have r0_ := (r0.below b9)
          clear r0; have r0 := r0_; clear r0_
          have xk_ : Box w9 (w.heap.size) #[.int .i64 kI0, (.slice kA1 kn1 kc1)] 33 := (Box.b xk b9)
          clear xk; have xk := xk_; clear xk_
          have xt_ : Box w9 (w.heap.size + 1) #[.int .i64 tI0, .int .i64 (tapeLN tI0 tI1 kI0 ((kn1 : Int) - 1))] 40 := (Box.b xt b9)
          clear xt; have xt := xt_; clear xt_
          have xr_ : Box w9 (w.heap.size + 1 + 1) #[.slice none 0 0, .slice none 0 0] 38 := (Box.b xr b9)
          clear xr; have xr := xr_; clear xr_
          have xq_ : Box w9 (w.heap.size + 1 + 1 + 1) #[.int .i64 0, .int .i64 0] 40 := (Box.b xq b9)
          clear xq; have xq := xq_; clear xq_
          have xa_ : Box w9 (w2.heap.size) #[.slice pA pn pc, .slice none 0 0] 38 := (Box.b xa b9)
          clear xa; have xa := xa_; clear xa_
          (try simp only [Act.put, layA, layB, layC])
          have hS : ∀ W, Later w9 W → (Below w.heap.size w W ∧ Below w9.heap.size w9 W ∧ W.cell? ⟨w.heap.size, 0, none⟩ = some (.int .i64 kI0) ∧ W.cell? ⟨w.heap.size, 1, none⟩ = some ((.slice kA1 kn1 kc1)) ∧ W.cell? ⟨w.heap.size + 1, 0, none⟩ = some (.int .i64 tI0) ∧ W.cell? ⟨w.heap.size + 1, 1, none⟩ = some (.int .i64 (tapeLN tI0 tI1 kI0 ((kn1 : Int) - 1)))) := fun W hW => ⟨Below.trans (b := _) (by repeat (with_reducible (first | assumption | exact Below.refl _ _ | refine Below.alloc ?_ (by first | omega | (simp; done) | (simp; omega)) _ | refine Below.setCell ?_ (by first | omega | (simp; done) | (simp; omega)) _ | refine Below.drew ?_ | refine below_drewN ?_ _))) (Below.mono hW (by first | omega | (simp [size_drew]; done) | (simp [size_drew]; omega))), Below.trans (b := _) (by repeat (with_reducible (first | assumption | exact Below.refl _ _ | refine Below.alloc ?_ (by first | omega | (simp; done) | (simp; omega)) _ | refine Below.setCell ?_ (by first | omega | (simp; done) | (simp; omega)) _ | refine Below.drew ?_ | refine below_drewN ?_ _))) (Below.mono hW (by first | omega | (simp [size_drew]; done) | (simp [size_drew]; omega))), (Box.below xk hW (by first | omega | (simp [size_drew]; done) | (simp [size_drew]; omega))).two.1, (Box.below xk hW (by first | omega | (simp [size_drew]; done) | (simp [size_drew]; omega))).two.2.1, (Box.below xt hW (by first | omega | (simp [size_drew]; done) | (simp [size_drew]; omega))).two.1, (Box.below xt hW (by first | omega | (simp [size_drew]; done) | (simp [size_drew]; omega))).two.2.1⟩
          (refine tkM 16 hG hS ?_; (try simp only [Act.put, layA, layB, layC]))
          (refine tkM 17 hG hS ?_; (try simp only [Act.put, layA, layB, layC]))
          (refine tkY 18 hG ?_; (try simp only [Act.put, layA, layB, layC]))
          (refine tkM 19 hG hS ?_; (try simp only [Act.put, layA, layB, layC]))
          refine storeM (z := 20) (by simp only [List.getElem?_toArray, List.getElem?_cons_succ, List.getElem?_cons_zero] <;> rfl) (by kernel_rfl) (by rfl) (by rfl) ?_
          intro w10 b10
          have B10 : Below w.heap.size w w10 := (hS w10 b10).1
          have z10 := Below.size b10
          (try simp only [World.size_alloc, World.size_setCell, size_drew] at z10)
          have r0_ := (r0.below b10)
          clear r0; have r0 := r0_; clear r0_
          have r1_ := (r1.below b10)
          clear r1; have r1 := r1_; clear r1_
          have xk_ : Box w10 (w.heap.size) #[.int .i64 kI0, (.slice kA1 kn1 kc1)] 33 := (Box.b xk b10)
          clear xk; have xk := xk_; clear xk_
          have xt_ : Box w10 (w.heap.size + 1) #[.int .i64 tI0, .int .i64 (tapeLN tI0 tI1 kI0 ((kn1 : Int) - 1))] 40 := (Box.b xt b10)
          clear xt; have xt := xt_; clear xt_
          have xr_ : Box w10 (w.heap.size + 1 + 1) #[.slice none 0 0, .slice none 0 0] 38 := (Box.b xr b10)
          clear xr; have xr := xr_; clear xr_
          have xq_ : Box w10 (w.heap.size + 1 + 1 + 1) #[.int .i64 0, .int .i64 0] 40 := (Box.b xq b10)
          clear xq; have xq := xq_; clear xq_
          have xa_ : Box w10 (w2.heap.size) #[.slice pA pn pc, .slice none 0 0] 38 := (Box.b xa b10)
          clear xa; have xa := xa_; clear xa_
          clear hS hG
          refine Zc.nil ?_
          (try unfold ptr)
          (try simp only [Act.put, layA, layB, layC])
          obtain ⟨cxa_0, cxa_1, fxa_0, fxa_1⟩ := xa.two
          obtain ⟨cxt_0, cxt_1, fxt_0, fxt_1⟩ := xt.two
          refine ⟨_, by go_simp; (first | done | with_reducible rfl | exact ⟨rfl, rfl⟩), ?_⟩
          (try simp only [Act.put, layA, layB, layC])
          refine skipAny (i := 21) (by simp only [List.getElem?_toArray, List.getElem?_cons_succ, List.getElem?_cons_zero] <;> rfl) (by kernel_rfl) (by rfl) (by go_simp; (first | done | with_reducible rfl | exact ⟨rfl, rfl⟩)) ?_
          (try simp only [Act.put, layA, layB, layC])
          refine wpAny_done (by kernel_rfl) ?_ _
          clear cxa_0 cxa_1 fxa_0 fxa_1 cxt_0 cxt_1 fxt_0 fxt_1
          generalize hw11 : World.setCell _ _ _ = w11
          have z11 : w10.heap.size ≤ w11.heap.size := by rw [← hw11]; simp
          have B11 : Below w.heap.size w w11 := by rw [← hw11]; repeat (with_reducible (first | assumption | exact Below.refl _ _ | refine Below.alloc ?_ (by first | omega | (simp; done) | (simp; omega)) _ | refine Below.setCell ?_ (by first | omega | (simp; done) | (simp; omega)) _ | refine Below.drew ?_ | refine below_drewN ?_ _))
          have hK : ∀ k, k ≠ w2.heap.size → k ≠ w.heap.size + 1 → k < w10.heap.size → w11.heap[k]? = w10.heap[k]? := by
            intro k h0 h1 _; rw [← hw11]
            repeat (first | rfl | refine (Below.heap_setCell _ _ _ _ (by first | exact h0 | exact h1)).trans ?_)
          have r0_ := r0.keepBlock z11 (fun k h1 h2 => hK k (by omega) (by omega) (by have := r0.2.1; omega))
          clear r0; have r0 := r0_; clear r0_
          have r1_ := r1.keepBlock z11 (fun k h1 h2 => hK k (by omega) (by omega) (by have := r1.2.1; omega))
          clear r1; have r1 := r1_; clear r1_
          have xk_ : Box w11 (w.heap.size) #[.int .i64 kI0, (.slice kA1 kn1 kc1)] 33 := (by rw [← hw11]; exact (((xk.far (by omega)).far (by omega)).far (by omega)))
          clear xk; have xk := xk_; clear xk_
          have xt_ : Box w11 (w.heap.size + 1) #[.int .i64 tI0, .int .i64 (tapeLN tI0 (tapeLN tI0 tI1 kI0 ((kn1 : Int) - 1)) kI0 ((kn1 : Int) - 1))] 40 := (by rw [← hw11]; exact (((xt.far (by omega)).setAt (i := 0) (v := .int .i64 tI0) (ds := #[.int .i64 tI0, .int .i64 (tapeLN tI0 tI1 kI0 ((kn1 : Int) - 1))]) (by simp)).setAt (i := 1) (v := .int .i64 (tapeLN tI0 (tapeLN tI0 tI1 kI0 ((kn1 : Int) - 1)) kI0 ((kn1 : Int) - 1))) (ds := #[.int .i64 tI0, .int .i64 (tapeLN tI0 (tapeLN tI0 tI1 kI0 ((kn1 : Int) - 1)) kI0 ((kn1 : Int) - 1))]) (by simp)))
          clear xt; have xt := xt_; clear xt_
          have xr_ : Box w11 (w.heap.size + 1 + 1) #[.slice none 0 0, .slice none 0 0] 38 := (by rw [← hw11]; exact (((xr.far (by omega)).far (by omega)).far (by omega)))
          clear xr; have xr := xr_; clear xr_
          have xq_ : Box w11 (w.heap.size + 1 + 1 + 1) #[.int .i64 0, .int .i64 0] 40 := (by rw [← hw11]; exact (((xq.far (by omega)).far (by omega)).far (by omega)))
          clear xq; have xq := xq_; clear xq_
          have xa_ : Box w11 (w2.heap.size) #[.slice pA pn pc, .slice qA qn qc] 38 := (by rw [← hw11]; exact (((xa.setAt (i := 1) (v := .slice qA qn qc) (ds := #[.slice pA pn pc, .slice qA qn qc]) (by simp)).far (by omega)).far (by omega)))
          clear xa; have xa := xa_; clear xa_
          clear hw11 hK
          obtain ⟨cxa_0, cxa_1, fxa_0, fxa_1⟩ := xa.two
          have l_xa_0 : w2.heap.size < w11.heap.size := by omega
          obtain ⟨cxt_0, cxt_1, fxt_0, fxt_1⟩ := xt.two
          have l_xt_0 : w.heap.size + 1 < w11.heap.size := by omega
          go_wp2_with fail
          clear cxa_0 cxa_1 fxa_0 fxa_1 l_xa_0 cxt_0 cxt_1 fxt_0 fxt_1 l_xt_0
          refine wp_region_held_drew (S := fun W => W.cell? ⟨w2.heap.size, 0, none⟩ = some (.slice pA pn pc) ∧ W.cell? ⟨w2.heap.size, 1, none⟩ = some (.slice qA qn qc) ∧ W.cell? ⟨w.heap.size + 1, 0, none⟩ = some (.int .i64 tI0) ∧ W.cell? ⟨w.heap.size + 1, 1, none⟩ = some (.int .i64 (tapeLN tI0 (tapeLN tI0 tI1 kI0 ((kn1 : Int) - 1)) kI0 ((kn1 : Int) - 1)))) (by kernel_rfl) ⟨xa.drew.two.1, xa.drew.two.2.1, xt.drew.two.1, xt.drew.two.2.1⟩ (fun hS => ?_)
          (refine tk 0 hS ?_; (try simp only [Act.put, layA, layB, layC]))
          (refine tk 1 hS ?_; (try simp only [Act.put, layA, layB, layC]))
          refine on 2 ?_
          obtain ⟨cxr_0, cxr_1, fxr_0, fxr_1⟩ := xr.two
          refine skipH (by go_simp; (first | done | with_reducible rfl | exact ⟨rfl, rfl⟩)) ?_ (fun hS_ => ?_)
          · exact ⟨((xa.far (by omega)).far (by omega)).drew.two.1, ((xa.far (by omega)).far (by omega)).drew.two.2.1, ((xt.far (by omega)).far (by omega)).drew.two.1, ((xt.far (by omega)).far (by omega)).drew.two.2.1⟩
          clear cxr_0 cxr_1 fxr_0 fxr_1
          clear hS
          have hS := hS_
          clear hS_
          (try simp only [Act.put, layA, layB, layC])
          refine on 3 ?_
          obtain ⟨cxq_0, cxq_1, fxq_0, fxq_1⟩ := xq.two
          refine skipH (by go_simp; (first | done | with_reducible rfl | exact ⟨rfl, rfl⟩)) ?_ (fun hS_ => ?_)
          · exact ⟨((((xa.far (by omega)).far (by omega)).far (by omega)).far (by omega)).drew.two.1, ((((xa.far (by omega)).far (by omega)).far (by omega)).far (by omega)).drew.two.2.1, ((((xt.far (by omega)).far (by omega)).far (by omega)).far (by omega)).drew.two.1, ((((xt.far (by omega)).far (by omega)).far (by omega)).far (by omega)).drew.two.2.1⟩
          clear cxq_0 cxq_1 fxq_0 fxq_1
          clear hS
          have hS := hS_
          clear hS_
          (try simp only [Act.put, layA, layB, layC])
          clear hS
          refine wpAnyH_done (by kernel_rfl) ?_ _
          obtain ⟨cxr_0, cxr_1, fxr_0, fxr_1⟩ := xr.two
          have l_xr_0 : w.heap.size + 1 + 1 < w11.heap.size := by omega
          obtain ⟨cxq_0, cxq_1, fxq_0, fxq_1⟩ := xq.two
          have l_xq_0 : w.heap.size + 1 + 1 + 1 < w11.heap.size := by omega
          go_wp2
          refine bodyPost_ret (v := .tuple #[.agg #[.slice pA pn pc, .slice qA qn qc], .agg #[.int .i64 tI0, .int .i64 (tapeLN tI0 (tapeLN tI0 tI1 kI0 ((kn1 : Int) - 1)) kI0 ((kn1 : Int) - 1))]]) ?_ rfl ⟨pA, pn, pc, qA, qn, qc, by rw [nT_yes HO.out, hnk.out], ?_, ?_⟩
          · simp [results, Try.results38, go_sem, cxr_0, cxr_1, fxr_0, fxr_1, l_xr_0, cxq_0, cxq_1, fxq_0, fxq_1, l_xq_0]
          · have R := OwnL.two (B := w.heap.size + 1 + 1 + 1 + 1) r0 r1 (by omega) (by omega) (by omega)
            simp only [List.cons_append, List.nil_append] at R
            rw [nS_yes HO.out, nM_yes HO.out, hnk.out]; exact OwnL.mono ((((R.setBox (by omega)).setBox (by omega)).setBox (by omega)).setBox (by omega)) (by omega) (by first | omega | (simp [size_drew]; done) | (simp [size_drew]; omega)) (Nat.le_refl _)
          · repeat (with_reducible (first | assumption | exact Below.refl _ _ | refine Below.alloc ?_ (by first | omega | (simp; done) | (simp; omega)) _ | refine Below.setCell ?_ (by first | omega | (simp; done) | (simp; omega)) _ | refine Below.drew ?_ | refine below_drewN ?_ _))
end Go.Proofs.Ytllnnbmgdbinnaa

/- Contracts of TripleNew. Printed by mac2.py. -/
import Derived.Test.YtllnnbmgdbinnaaAuthN
namespace Go.Proofs.Ytllnnbmgdbinnaa
set_option linter.unusedSimpArgs false
set_option linter.unusedVariables false
open Go.RowKit
section
variable {p s a : Int} {al : List Int}
theorem mAS_yes (h : mOk p al s a = true) : mAS p al s a = nS p al (tapeB s a p) s (tapeM s (tapeM s a p) p) := by unfold mAS; rw [if_pos h]; rfl
theorem mAS_no (h : mOk p al s a = false) : mAS p al s a = [] := by simp [mAS, h]
theorem mAM_yes (h : mOk p al s a = true) : mAM p al s a = nM p al (tapeB s a p) s (tapeM s (tapeM s a p) p) := by unfold mAM; rw [if_pos h]; rfl
theorem mAM_no (h : mOk p al s a = false) : mAM p al s a = [] := by simp [mAM, h]
theorem mBS_yes (h : mOk p al s a = true) : mBS p al s a = nS p al (tapeB s (tapeM s a p) p) s (nT p al (tapeB s a p) s (tapeM s (tapeM s a p) p)) := by unfold mBS; rw [if_pos h]; rfl
theorem mBS_no (h : mOk p al s a = false) : mBS p al s a = [] := by simp [mBS, h]
theorem mBM_yes (h : mOk p al s a = true) : mBM p al s a = nM p al (tapeB s (tapeM s a p) p) s (nT p al (tapeB s a p) s (tapeM s (tapeM s a p) p)) := by unfold mBM; rw [if_pos h]; rfl
theorem mBM_no (h : mOk p al s a = false) : mBM p al s a = [] := by simp [mBM, h]
theorem mCS_yes (h : mOk p al s a = true) : mCS p al s a = nS p al (fmul p (tapeB s a p) (tapeB s (tapeM s a p) p)) s (nT p al (tapeB s (tapeM s a p) p) s (nT p al (tapeB s a p) s (tapeM s (tapeM s a p) p))) := by unfold mCS; rw [if_pos h]; rfl
theorem mCS_no (h : mOk p al s a = false) : mCS p al s a = [] := by simp [mCS, h]
theorem mCM_yes (h : mOk p al s a = true) : mCM p al s a = nM p al (fmul p (tapeB s a p) (tapeB s (tapeM s a p) p)) s (nT p al (tapeB s (tapeM s a p) p) s (nT p al (tapeB s a p) s (tapeM s (tapeM s a p) p))) := by unfold mCM; rw [if_pos h]; rfl
theorem mCM_no (h : mOk p al s a = false) : mCM p al s a = [] := by simp [mCM, h]
theorem mT_yes (h : mOk p al s a = true) : mT p al s a = nT p al (fmul p (tapeB s a p) (tapeB s (tapeM s a p) p)) s (nT p al (tapeB s (tapeM s a p) p) s (nT p al (tapeB s a p) s (tapeM s (tapeM s a p) p))) := by unfold mT; rw [if_pos h]; rfl
theorem mT_no (h : mOk p al s a = false) : mT p al s a = a := by simp [mT, h]
end
set_option maxRecDepth 100000 in
set_option maxHeartbeats 2000000 in
theorem sTripleNew_L {kA1 : Option Addr} {kn1 kc1 : Nat} {kL1 : List Int} {w : World} (kI0 : Int) (kH : RdL w [((.slice kA1 kn1 kc1), .ints kL1)]) (kL1n : kL1.length ≤ 1048576) (tI0 : Int) (tI1 : Int) :
    Calls Try.prog 72 #[.agg #[.int .i64 kI0, (.slice kA1 kn1 kc1)], .agg #[.int .i64 tI0, .int .i64 tI1]] w fun e w' => ∃ rA0 rn0 rc0 rA1 rn1 rc1 rA2 rn2 rc2 rA3 rn3 rc3 rA4 rn4 rc4 rA5 rn5 rc5, e = .returned (.tuple #[.agg #[.slice rA0 rn0 rc0, .slice rA1 rn1 rc1, .slice rA2 rn2 rc2, .slice rA3 rn3 rc3, .slice rA4 rn4 rc4, .slice rA5 rn5 rc5], .agg #[.int .i64 tI0, .int .i64 (mT kI0 kL1 tI0 tI1)]]) ∧ OwnL w' w.heap.size w'.heap.size [(.slice rA0 rn0 rc0, .ints (mAS kI0 kL1 tI0 tI1)), (.slice rA1 rn1 rc1, .ints (mAM kI0 kL1 tI0 tI1)), (.slice rA2 rn2 rc2, .ints (mBS kI0 kL1 tI0 tI1)), (.slice rA3 rn3 rc3, .ints (mBM kI0 kL1 tI0 tI1)), (.slice rA4 rn4 rc4, .ints (mCS kI0 kL1 tI0 tI1)), (.slice rA5 rn5 rc5, .ints (mCM kI0 kL1 tI0 tI1))] ∧ Below w.heap.size w w' := by
  have kL1i : Ints w kA1 kn1 kL1 := Rd.toInts (kH ((.slice kA1 kn1 kc1), .ints kL1) (by simp))
  have kL1l := Lib.hid kL1i.len
  have kL1m : kn1 ≤ 1048576 := by rw [← kL1l.out]; exact kL1n
  cases k1 : keysOk kI0 kL1 with
  | false =>
    have HO : Hid (mOk kI0 kL1 tI0 tI1 = false) := by show _ = _; simp [mOk, k1]
    go_enter Try.func72, Try.ntmps72
    go_wp2_with fail
    refine (sKeysOk_L kI0 (RdL.b kH) kL1n).mono ?_
    rintro e w1 ⟨rfl, b1⟩
    have z1 := b1.size
    try simp only [World.size_alloc, World.size_setCell, size_drew] at z1
    have B1 : Below w.heap.size w w1 := Below.t b1
    have xk_ : Box w1 (w.heap.size) #[.int .i64 kI0, (.slice kA1 kn1 kc1)] 33 := ((((Box.new (g := w.heap.size) _ #[.int .i64 kI0, (.slice kA1 kn1 kc1)] 33 (by simp)).alloc _).alloc _).alloc _).below b1 (by first | omega | (simp [size_drew]; done) | (simp [size_drew]; omega))
    have xk := xk_; clear xk_
    have xt_ : Box w1 (w.heap.size + 1) #[.int .i64 tI0, .int .i64 tI1] 40 := (((Box.new (g := w.heap.size + 1) _ #[.int .i64 tI0, .int .i64 tI1] 40 (by simp)).alloc _).alloc _).below b1 (by first | omega | (simp [size_drew]; done) | (simp [size_drew]; omega))
    have xt := xt_; clear xt_
    have xr_ : Box w1 (w.heap.size + 1 + 1) #[.slice none 0 0, .slice none 0 0, .slice none 0 0, .slice none 0 0, .slice none 0 0, .slice none 0 0] 68 := ((Box.new (g := w.heap.size + 1 + 1) _ #[.slice none 0 0, .slice none 0 0, .slice none 0 0, .slice none 0 0, .slice none 0 0, .slice none 0 0] 68 (by simp)).alloc _).below b1 (by first | omega | (simp [size_drew]; done) | (simp [size_drew]; omega))
    have xr := xr_; clear xr_
    have xq_ : Box w1 (w.heap.size + 1 + 1 + 1) #[.int .i64 0, .int .i64 0] 40 := (Box.new (g := w.heap.size + 1 + 1 + 1) _ #[.int .i64 0, .int .i64 0] 40 (by simp)).below b1 (by first | omega | (simp [size_drew]; done) | (simp [size_drew]; omega))
    have xq := xq_; clear xq_
    (try clear b1)
    obtain ⟨cxt_0, cxt_1, fxt_0, fxt_1⟩ := xt.two
    have l_xt_0 : w.heap.size + 1 < w1.heap.size := by omega
    go_wp2_with fail
    clear cxt_0 cxt_1 fxt_0 fxt_1 l_xt_0
    refine wp_region_held_drew (S := fun W => W.cell? ⟨w.heap.size + 1, 0, none⟩ = some (.int .i64 tI0) ∧ W.cell? ⟨w.heap.size + 1, 1, none⟩ = some (.int .i64 tI1)) (by kernel_rfl) ⟨xt.drew.two.1, xt.drew.two.2.1⟩ (fun hS => ?_)
    (refine tk 0 hS ?_; (try simp only [Act.put, layA, layB, layC]))
    (refine tk 1 hS ?_; (try simp only [Act.put, layA, layB, layC]))
    refine on 2 ?_
    obtain ⟨cxr_0, cxr_1, cxr_2, cxr_3, cxr_4, cxr_5, fxr_0, fxr_1, fxr_2, fxr_3, fxr_4, fxr_5⟩ := xr.six
    refine skipH (by go_simp; (first | done | with_reducible rfl | exact ⟨rfl, rfl⟩)) ?_ (fun hS_ => ?_)
    · generalize hwz : World.setCell _ _ _ = wz
      have hK : ∀ k, k ≠ w.heap.size + 1 + 1 → wz.heap[k]? = w1.heap[k]? := by
        intro k h0; rw [← hwz]
        refine (Below.heap_setCell _ _ _ _ (by exact h0)).trans ?_
        refine (Below.heap_setCell _ _ _ _ (by exact h0)).trans ?_
        refine (Below.heap_setCell _ _ _ _ (by exact h0)).trans ?_
        refine (Below.heap_setCell _ _ _ _ (by exact h0)).trans ?_
        refine (Below.heap_setCell _ _ _ _ (by exact h0)).trans ?_
        refine (Below.heap_setCell _ _ _ _ (by exact h0)).trans ?_
        rfl
      have z_xt : Box wz (w.heap.size + 1) #[.int .i64 tI0, .int .i64 tI1] 40 := (hK _ (by omega)).trans xt
      exact ⟨z_xt.two.1, z_xt.two.2.1⟩
    clear cxr_0 cxr_1 cxr_2 cxr_3 cxr_4 cxr_5 fxr_0 fxr_1 fxr_2 fxr_3 fxr_4 fxr_5
    clear hS
    have hS := hS_
    clear hS_
    revert hS
    generalize hw2 : World.setCell _ _ _ = w2
    have z2 : w1.heap.size ≤ w2.heap.size := by rw [← hw2]; simp [size_drew]
    have B2 : Below w.heap.size w w2 := by rw [← hw2]; repeat (with_reducible (first | assumption | exact Below.refl _ _ | refine Below.alloc ?_ (by first | omega | (simp; done) | (simp; omega)) _ | refine Below.setCell ?_ (by first | omega | (simp; done) | (simp; omega)) _ | refine Below.drew ?_ | refine below_drewN ?_ _))
    have hK : ∀ k, k ≠ w.heap.size + 1 + 1 → k < w1.heap.size → w2.heap[k]? = w1.heap[k]? := by
      intro k h0 hk; rw [← hw2]
      refine (Below.heap_setCell _ _ _ _ (by exact h0)).trans ?_
      refine (Below.heap_setCell _ _ _ _ (by exact h0)).trans ?_
      refine (Below.heap_setCell _ _ _ _ (by exact h0)).trans ?_
      refine (Below.heap_setCell _ _ _ _ (by exact h0)).trans ?_
      refine (Below.heap_setCell _ _ _ _ (by exact h0)).trans ?_
      refine (Below.heap_setCell _ _ _ _ (by exact h0)).trans ?_
      rfl
    have xk_ : Box w2 (w.heap.size) #[.int .i64 kI0, (.slice kA1 kn1 kc1)] 33 := (hK _ (by omega) (by have := xk.lt; omega)).trans xk
    clear xk; have xk := xk_; clear xk_
    have xt_ : Box w2 (w.heap.size + 1) #[.int .i64 tI0, .int .i64 tI1] 40 := (hK _ (by omega) (by have := xt.lt; omega)).trans xt
    clear xt; have xt := xt_; clear xt_
    have xq_ : Box w2 (w.heap.size + 1 + 1 + 1) #[.int .i64 0, .int .i64 0] 40 := (hK _ (by omega) (by have := xq.lt; omega)).trans xq
    clear xq; have xq := xq_; clear xq_
    have xr_ : Box w2 (w.heap.size + 1 + 1) #[.slice none 0 0, .slice none 0 0, .slice none 0 0, .slice none 0 0, .slice none 0 0, .slice none 0 0] 68 := (by rw [← hw2]; exact ((((((xr.drew.setAt (i := 0) (v := .slice none 0 0) (ds := #[.slice none 0 0, .slice none 0 0, .slice none 0 0, .slice none 0 0, .slice none 0 0, .slice none 0 0]) (by simp)).setAt (i := 1) (v := .slice none 0 0) (ds := #[.slice none 0 0, .slice none 0 0, .slice none 0 0, .slice none 0 0, .slice none 0 0, .slice none 0 0]) (by simp)).setAt (i := 2) (v := .slice none 0 0) (ds := #[.slice none 0 0, .slice none 0 0, .slice none 0 0, .slice none 0 0, .slice none 0 0, .slice none 0 0]) (by simp)).setAt (i := 3) (v := .slice none 0 0) (ds := #[.slice none 0 0, .slice none 0 0, .slice none 0 0, .slice none 0 0, .slice none 0 0, .slice none 0 0]) (by simp)).setAt (i := 4) (v := .slice none 0 0) (ds := #[.slice none 0 0, .slice none 0 0, .slice none 0 0, .slice none 0 0, .slice none 0 0, .slice none 0 0]) (by simp)).setAt (i := 5) (v := .slice none 0 0) (ds := #[.slice none 0 0, .slice none 0 0, .slice none 0 0, .slice none 0 0, .slice none 0 0, .slice none 0 0]) (by simp)))
    clear xr; have xr := xr_; clear xr_
    (try clear b2)
    (try clear B1)
    clear hw2 hK
    intro hS
    (try simp only [Act.put, layA, layB, layC])
    refine on 3 ?_
    obtain ⟨cxq_0, cxq_1, fxq_0, fxq_1⟩ := xq.two
    refine skipH (by go_simp; (first | done | with_reducible rfl | exact ⟨rfl, rfl⟩)) ?_ (fun hS_ => ?_)
    · generalize hwz : World.setCell _ _ _ = wz
      have hK : ∀ k, k ≠ w.heap.size + 1 + 1 + 1 → wz.heap[k]? = w2.heap[k]? := by
        intro k h0; rw [← hwz]
        refine (Below.heap_setCell _ _ _ _ (by exact h0)).trans ?_
        refine (Below.heap_setCell _ _ _ _ (by exact h0)).trans ?_
        rfl
      have z_xt : Box wz (w.heap.size + 1) #[.int .i64 tI0, .int .i64 tI1] 40 := (hK _ (by omega)).trans xt
      exact ⟨z_xt.two.1, z_xt.two.2.1⟩
    clear cxq_0 cxq_1 fxq_0 fxq_1
    clear hS
    have hS := hS_
    clear hS_
    (try simp only [Act.put, layA, layB, layC])
    clear hS
    refine wpAnyH_done (by kernel_rfl) ?_ _
    obtain ⟨cxr_0, cxr_1, cxr_2, cxr_3, cxr_4, cxr_5, fxr_0, fxr_1, fxr_2, fxr_3, fxr_4, fxr_5⟩ := xr.six
    have l_xr_0 : w.heap.size + 1 + 1 < w2.heap.size := by omega
    obtain ⟨cxq_0, cxq_1, fxq_0, fxq_1⟩ := xq.two
    have l_xq_0 : w.heap.size + 1 + 1 + 1 < w2.heap.size := by omega
    go_wp2
    refine bodyPost_ret (v := .tuple #[.agg #[.slice none 0 0, .slice none 0 0, .slice none 0 0, .slice none 0 0, .slice none 0 0, .slice none 0 0], .agg #[.int .i64 tI0, .int .i64 tI1]]) ?_ rfl ⟨none, 0, 0, none, 0, 0, none, 0, 0, none, 0, 0, none, 0, 0, none, 0, 0, by rw [mT_no HO.out], ?_, ?_⟩
    · simp [results, Try.results72, go_sem, cxr_0, cxr_1, cxr_2, cxr_3, cxr_4, cxr_5, fxr_0, fxr_1, fxr_2, fxr_3, fxr_4, fxr_5, l_xr_0, cxq_0, cxq_1, fxq_0, fxq_1, l_xq_0]
    · rw [mAS_no HO.out, mAM_no HO.out, mBS_no HO.out, mBM_no HO.out, mCS_no HO.out, mCM_no HO.out]; exact OwnL.nones _ (by simp) (by first | omega | (simp [size_drew]; done) | (simp [size_drew]; omega))
    · repeat (with_reducible (first | assumption | exact Below.refl _ _ | refine Below.alloc ?_ (by first | omega | (simp; done) | (simp; omega)) _ | refine Below.setCell ?_ (by first | omega | (simp; done) | (simp; omega)) _ | refine Below.drew ?_ | refine below_drewN ?_ _))
  | true =>
    cases k2 : tapeOk tI0 tI1 with
    | false =>
      have HO : Hid (mOk kI0 kL1 tI0 tI1 = false) := by show _ = _; simp [mOk, k1, k2]
      go_enter Try.func72, Try.ntmps72
      go_wp2_with fail
      refine (sKeysOk_L kI0 (RdL.b kH) kL1n).mono ?_
      rintro e w1 ⟨rfl, b1⟩
      have z1 := b1.size
      try simp only [World.size_alloc, World.size_setCell, size_drew] at z1
      have B1 : Below w.heap.size w w1 := Below.t b1
      have xk_ : Box w1 (w.heap.size) #[.int .i64 kI0, (.slice kA1 kn1 kc1)] 33 := ((((Box.new (g := w.heap.size) _ #[.int .i64 kI0, (.slice kA1 kn1 kc1)] 33 (by simp)).alloc _).alloc _).alloc _).below b1 (by first | omega | (simp [size_drew]; done) | (simp [size_drew]; omega))
      have xk := xk_; clear xk_
      have xt_ : Box w1 (w.heap.size + 1) #[.int .i64 tI0, .int .i64 tI1] 40 := (((Box.new (g := w.heap.size + 1) _ #[.int .i64 tI0, .int .i64 tI1] 40 (by simp)).alloc _).alloc _).below b1 (by first | omega | (simp [size_drew]; done) | (simp [size_drew]; omega))
      have xt := xt_; clear xt_
      have xr_ : Box w1 (w.heap.size + 1 + 1) #[.slice none 0 0, .slice none 0 0, .slice none 0 0, .slice none 0 0, .slice none 0 0, .slice none 0 0] 68 := ((Box.new (g := w.heap.size + 1 + 1) _ #[.slice none 0 0, .slice none 0 0, .slice none 0 0, .slice none 0 0, .slice none 0 0, .slice none 0 0] 68 (by simp)).alloc _).below b1 (by first | omega | (simp [size_drew]; done) | (simp [size_drew]; omega))
      have xr := xr_; clear xr_
      have xq_ : Box w1 (w.heap.size + 1 + 1 + 1) #[.int .i64 0, .int .i64 0] 40 := (Box.new (g := w.heap.size + 1 + 1 + 1) _ #[.int .i64 0, .int .i64 0] 40 (by simp)).below b1 (by first | omega | (simp [size_drew]; done) | (simp [size_drew]; omega))
      have xq := xq_; clear xq_
      (try clear b1)
      obtain ⟨cxt_0, cxt_1, fxt_0, fxt_1⟩ := xt.two
      have l_xt_0 : w.heap.size + 1 < w1.heap.size := by omega
      go_wp2_with fail
      refine (sTapeOk_any tI0 tI1 _).mono ?_
      rintro e w2 ⟨rfl, b2⟩
      clear cxt_0 cxt_1 fxt_0 fxt_1 l_xt_0
      have z2 := b2.size
      try simp only [World.size_alloc, World.size_setCell, size_drew] at z2
      have B2 : Below w.heap.size w w2 := Below.t b2
      have xk_ : Box w2 (w.heap.size) #[.int .i64 kI0, (.slice kA1 kn1 kc1)] 33 := xk.below b2 (by first | omega | (simp [size_drew]; done) | (simp [size_drew]; omega))
      clear xk; have xk := xk_; clear xk_
      have xt_ : Box w2 (w.heap.size + 1) #[.int .i64 tI0, .int .i64 tI1] 40 := xt.below b2 (by first | omega | (simp [size_drew]; done) | (simp [size_drew]; omega))
      clear xt; have xt := xt_; clear xt_
      have xr_ : Box w2 (w.heap.size + 1 + 1) #[.slice none 0 0, .slice none 0 0, .slice none 0 0, .slice none 0 0, .slice none 0 0, .slice none 0 0] 68 := xr.below b2 (by first | omega | (simp [size_drew]; done) | (simp [size_drew]; omega))
      clear xr; have xr := xr_; clear xr_
      have xq_ : Box w2 (w.heap.size + 1 + 1 + 1) #[.int .i64 0, .int .i64 0] 40 := xq.below b2 (by first | omega | (simp [size_drew]; done) | (simp [size_drew]; omega))
      clear xq; have xq := xq_; clear xq_
      (try clear b2)
      (try clear B1)
      obtain ⟨cxt_0, cxt_1, fxt_0, fxt_1⟩ := xt.two
      have l_xt_0 : w.heap.size + 1 < w2.heap.size := by omega
      go_wp2_with fail
      clear cxt_0 cxt_1 fxt_0 fxt_1 l_xt_0
      refine wp_region_held_drew (S := fun W => W.cell? ⟨w.heap.size + 1, 0, none⟩ = some (.int .i64 tI0) ∧ W.cell? ⟨w.heap.size + 1, 1, none⟩ = some (.int .i64 tI1)) (by kernel_rfl) ⟨xt.drew.two.1, xt.drew.two.2.1⟩ (fun hS => ?_)
      (refine tk 0 hS ?_; (try simp only [Act.put, layA, layB, layC]))
      (refine tk 1 hS ?_; (try simp only [Act.put, layA, layB, layC]))
      refine on 2 ?_
      obtain ⟨cxr_0, cxr_1, cxr_2, cxr_3, cxr_4, cxr_5, fxr_0, fxr_1, fxr_2, fxr_3, fxr_4, fxr_5⟩ := xr.six
      refine skipH (by go_simp; (first | done | with_reducible rfl | exact ⟨rfl, rfl⟩)) ?_ (fun hS_ => ?_)
      · generalize hwz : World.setCell _ _ _ = wz
        have hK : ∀ k, k ≠ w.heap.size + 1 + 1 → wz.heap[k]? = w2.heap[k]? := by
          intro k h0; rw [← hwz]
          refine (Below.heap_setCell _ _ _ _ (by exact h0)).trans ?_
          refine (Below.heap_setCell _ _ _ _ (by exact h0)).trans ?_
          refine (Below.heap_setCell _ _ _ _ (by exact h0)).trans ?_
          refine (Below.heap_setCell _ _ _ _ (by exact h0)).trans ?_
          refine (Below.heap_setCell _ _ _ _ (by exact h0)).trans ?_
          refine (Below.heap_setCell _ _ _ _ (by exact h0)).trans ?_
          rfl
        have z_xt : Box wz (w.heap.size + 1) #[.int .i64 tI0, .int .i64 tI1] 40 := (hK _ (by omega)).trans xt
        exact ⟨z_xt.two.1, z_xt.two.2.1⟩
      clear cxr_0 cxr_1 cxr_2 cxr_3 cxr_4 cxr_5 fxr_0 fxr_1 fxr_2 fxr_3 fxr_4 fxr_5
      clear hS
      have hS := hS_
      clear hS_
      revert hS
      generalize hw3 : World.setCell _ _ _ = w3
      have z3 : w2.heap.size ≤ w3.heap.size := by rw [← hw3]; simp [size_drew]
      have B3 : Below w.heap.size w w3 := by rw [← hw3]; repeat (with_reducible (first | assumption | exact Below.refl _ _ | refine Below.alloc ?_ (by first | omega | (simp; done) | (simp; omega)) _ | refine Below.setCell ?_ (by first | omega | (simp; done) | (simp; omega)) _ | refine Below.drew ?_ | refine below_drewN ?_ _))
      have hK : ∀ k, k ≠ w.heap.size + 1 + 1 → k < w2.heap.size → w3.heap[k]? = w2.heap[k]? := by
        intro k h0 hk; rw [← hw3]
        refine (Below.heap_setCell _ _ _ _ (by exact h0)).trans ?_
        refine (Below.heap_setCell _ _ _ _ (by exact h0)).trans ?_
        refine (Below.heap_setCell _ _ _ _ (by exact h0)).trans ?_
        refine (Below.heap_setCell _ _ _ _ (by exact h0)).trans ?_
        refine (Below.heap_setCell _ _ _ _ (by exact h0)).trans ?_
        refine (Below.heap_setCell _ _ _ _ (by exact h0)).trans ?_
        rfl
      have xk_ : Box w3 (w.heap.size) #[.int .i64 kI0, (.slice kA1 kn1 kc1)] 33 := (hK _ (by omega) (by have := xk.lt; omega)).trans xk
      clear xk; have xk := xk_; clear xk_
      have xt_ : Box w3 (w.heap.size + 1) #[.int .i64 tI0, .int .i64 tI1] 40 := (hK _ (by omega) (by have := xt.lt; omega)).trans xt
      clear xt; have xt := xt_; clear xt_
      have xq_ : Box w3 (w.heap.size + 1 + 1 + 1) #[.int .i64 0, .int .i64 0] 40 := (hK _ (by omega) (by have := xq.lt; omega)).trans xq
      clear xq; have xq := xq_; clear xq_
      have xr_ : Box w3 (w.heap.size + 1 + 1) #[.slice none 0 0, .slice none 0 0, .slice none 0 0, .slice none 0 0, .slice none 0 0, .slice none 0 0] 68 := (by rw [← hw3]; exact ((((((xr.drew.setAt (i := 0) (v := .slice none 0 0) (ds := #[.slice none 0 0, .slice none 0 0, .slice none 0 0, .slice none 0 0, .slice none 0 0, .slice none 0 0]) (by simp)).setAt (i := 1) (v := .slice none 0 0) (ds := #[.slice none 0 0, .slice none 0 0, .slice none 0 0, .slice none 0 0, .slice none 0 0, .slice none 0 0]) (by simp)).setAt (i := 2) (v := .slice none 0 0) (ds := #[.slice none 0 0, .slice none 0 0, .slice none 0 0, .slice none 0 0, .slice none 0 0, .slice none 0 0]) (by simp)).setAt (i := 3) (v := .slice none 0 0) (ds := #[.slice none 0 0, .slice none 0 0, .slice none 0 0, .slice none 0 0, .slice none 0 0, .slice none 0 0]) (by simp)).setAt (i := 4) (v := .slice none 0 0) (ds := #[.slice none 0 0, .slice none 0 0, .slice none 0 0, .slice none 0 0, .slice none 0 0, .slice none 0 0]) (by simp)).setAt (i := 5) (v := .slice none 0 0) (ds := #[.slice none 0 0, .slice none 0 0, .slice none 0 0, .slice none 0 0, .slice none 0 0, .slice none 0 0]) (by simp)))
      clear xr; have xr := xr_; clear xr_
      (try clear b3)
      (try clear B2)
      clear hw3 hK
      intro hS
      (try simp only [Act.put, layA, layB, layC])
      refine on 3 ?_
      obtain ⟨cxq_0, cxq_1, fxq_0, fxq_1⟩ := xq.two
      refine skipH (by go_simp; (first | done | with_reducible rfl | exact ⟨rfl, rfl⟩)) ?_ (fun hS_ => ?_)
      · generalize hwz : World.setCell _ _ _ = wz
        have hK : ∀ k, k ≠ w.heap.size + 1 + 1 + 1 → wz.heap[k]? = w3.heap[k]? := by
          intro k h0; rw [← hwz]
          refine (Below.heap_setCell _ _ _ _ (by exact h0)).trans ?_
          refine (Below.heap_setCell _ _ _ _ (by exact h0)).trans ?_
          rfl
        have z_xt : Box wz (w.heap.size + 1) #[.int .i64 tI0, .int .i64 tI1] 40 := (hK _ (by omega)).trans xt
        exact ⟨z_xt.two.1, z_xt.two.2.1⟩
      clear cxq_0 cxq_1 fxq_0 fxq_1
      clear hS
      have hS := hS_
      clear hS_
      (try simp only [Act.put, layA, layB, layC])
      clear hS
      refine wpAnyH_done (by kernel_rfl) ?_ _
      obtain ⟨cxr_0, cxr_1, cxr_2, cxr_3, cxr_4, cxr_5, fxr_0, fxr_1, fxr_2, fxr_3, fxr_4, fxr_5⟩ := xr.six
      have l_xr_0 : w.heap.size + 1 + 1 < w3.heap.size := by omega
      obtain ⟨cxq_0, cxq_1, fxq_0, fxq_1⟩ := xq.two
      have l_xq_0 : w.heap.size + 1 + 1 + 1 < w3.heap.size := by omega
      go_wp2
      refine bodyPost_ret (v := .tuple #[.agg #[.slice none 0 0, .slice none 0 0, .slice none 0 0, .slice none 0 0, .slice none 0 0, .slice none 0 0], .agg #[.int .i64 tI0, .int .i64 tI1]]) ?_ rfl ⟨none, 0, 0, none, 0, 0, none, 0, 0, none, 0, 0, none, 0, 0, none, 0, 0, by rw [mT_no HO.out], ?_, ?_⟩
      · simp [results, Try.results72, go_sem, cxr_0, cxr_1, cxr_2, cxr_3, cxr_4, cxr_5, fxr_0, fxr_1, fxr_2, fxr_3, fxr_4, fxr_5, l_xr_0, cxq_0, cxq_1, fxq_0, fxq_1, l_xq_0]
      · rw [mAS_no HO.out, mAM_no HO.out, mBS_no HO.out, mBM_no HO.out, mCS_no HO.out, mCM_no HO.out]; exact OwnL.nones _ (by simp) (by first | omega | (simp [size_drew]; done) | (simp [size_drew]; omega))
      · repeat (with_reducible (first | assumption | exact Below.refl _ _ | refine Below.alloc ?_ (by first | omega | (simp; done) | (simp; omega)) _ | refine Below.setCell ?_ (by first | omega | (simp; done) | (simp; omega)) _ | refine Below.drew ?_ | refine below_drewN ?_ _))
    | true =>
      cases k3 : decide ((800000 : Int) < tI1) with
      | true =>
        have q3 : decide (tI1 ≤ 800000) = false := by simp at k3 ⊢; omega
        have HO : Hid (mOk kI0 kL1 tI0 tI1 = false) := by show _ = _; simp [mOk, k1, k2, q3]
        go_enter Try.func72, Try.ntmps72
        go_wp2_with fail
        refine (sKeysOk_L kI0 (RdL.b kH) kL1n).mono ?_
        rintro e w1 ⟨rfl, b1⟩
        have z1 := b1.size
        try simp only [World.size_alloc, World.size_setCell, size_drew] at z1
        have B1 : Below w.heap.size w w1 := Below.t b1
        have xk_ : Box w1 (w.heap.size) #[.int .i64 kI0, (.slice kA1 kn1 kc1)] 33 := ((((Box.new (g := w.heap.size) _ #[.int .i64 kI0, (.slice kA1 kn1 kc1)] 33 (by simp)).alloc _).alloc _).alloc _).below b1 (by first | omega | (simp [size_drew]; done) | (simp [size_drew]; omega))
        have xk := xk_; clear xk_
        have xt_ : Box w1 (w.heap.size + 1) #[.int .i64 tI0, .int .i64 tI1] 40 := (((Box.new (g := w.heap.size + 1) _ #[.int .i64 tI0, .int .i64 tI1] 40 (by simp)).alloc _).alloc _).below b1 (by first | omega | (simp [size_drew]; done) | (simp [size_drew]; omega))
        have xt := xt_; clear xt_
        have xr_ : Box w1 (w.heap.size + 1 + 1) #[.slice none 0 0, .slice none 0 0, .slice none 0 0, .slice none 0 0, .slice none 0 0, .slice none 0 0] 68 := ((Box.new (g := w.heap.size + 1 + 1) _ #[.slice none 0 0, .slice none 0 0, .slice none 0 0, .slice none 0 0, .slice none 0 0, .slice none 0 0] 68 (by simp)).alloc _).below b1 (by first | omega | (simp [size_drew]; done) | (simp [size_drew]; omega))
        have xr := xr_; clear xr_
        have xq_ : Box w1 (w.heap.size + 1 + 1 + 1) #[.int .i64 0, .int .i64 0] 40 := (Box.new (g := w.heap.size + 1 + 1 + 1) _ #[.int .i64 0, .int .i64 0] 40 (by simp)).below b1 (by first | omega | (simp [size_drew]; done) | (simp [size_drew]; omega))
        have xq := xq_; clear xq_
        (try clear b1)
        obtain ⟨cxt_0, cxt_1, fxt_0, fxt_1⟩ := xt.two
        have l_xt_0 : w.heap.size + 1 < w1.heap.size := by omega
        go_wp2_with fail
        refine (sTapeOk_any tI0 tI1 _).mono ?_
        rintro e w2 ⟨rfl, b2⟩
        clear cxt_0 cxt_1 fxt_0 fxt_1 l_xt_0
        have z2 := b2.size
        try simp only [World.size_alloc, World.size_setCell, size_drew] at z2
        have B2 : Below w.heap.size w w2 := Below.t b2
        have xk_ : Box w2 (w.heap.size) #[.int .i64 kI0, (.slice kA1 kn1 kc1)] 33 := xk.below b2 (by first | omega | (simp [size_drew]; done) | (simp [size_drew]; omega))
        clear xk; have xk := xk_; clear xk_
        have xt_ : Box w2 (w.heap.size + 1) #[.int .i64 tI0, .int .i64 tI1] 40 := xt.below b2 (by first | omega | (simp [size_drew]; done) | (simp [size_drew]; omega))
        clear xt; have xt := xt_; clear xt_
        have xr_ : Box w2 (w.heap.size + 1 + 1) #[.slice none 0 0, .slice none 0 0, .slice none 0 0, .slice none 0 0, .slice none 0 0, .slice none 0 0] 68 := xr.below b2 (by first | omega | (simp [size_drew]; done) | (simp [size_drew]; omega))
        clear xr; have xr := xr_; clear xr_
        have xq_ : Box w2 (w.heap.size + 1 + 1 + 1) #[.int .i64 0, .int .i64 0] 40 := xq.below b2 (by first | omega | (simp [size_drew]; done) | (simp [size_drew]; omega))
        clear xq; have xq := xq_; clear xq_
        (try clear b2)
        (try clear B1)
        obtain ⟨cxt_0, cxt_1, fxt_0, fxt_1⟩ := xt.two
        have l_xt_0 : w.heap.size + 1 < w2.heap.size := by omega
        go_wp2_with fail
        clear cxt_0 cxt_1 fxt_0 fxt_1 l_xt_0
        refine wp_region_held_drew (S := fun W => W.cell? ⟨w.heap.size + 1, 0, none⟩ = some (.int .i64 tI0) ∧ W.cell? ⟨w.heap.size + 1, 1, none⟩ = some (.int .i64 tI1)) (by kernel_rfl) ⟨xt.drew.two.1, xt.drew.two.2.1⟩ (fun hS => ?_)
        (refine tk 0 hS ?_; (try simp only [Act.put, layA, layB, layC]))
        (refine tk 1 hS ?_; (try simp only [Act.put, layA, layB, layC]))
        refine on 2 ?_
        obtain ⟨cxr_0, cxr_1, cxr_2, cxr_3, cxr_4, cxr_5, fxr_0, fxr_1, fxr_2, fxr_3, fxr_4, fxr_5⟩ := xr.six
        refine skipH (by go_simp; (first | done | with_reducible rfl | exact ⟨rfl, rfl⟩)) ?_ (fun hS_ => ?_)
        · generalize hwz : World.setCell _ _ _ = wz
          have hK : ∀ k, k ≠ w.heap.size + 1 + 1 → wz.heap[k]? = w2.heap[k]? := by
            intro k h0; rw [← hwz]
            refine (Below.heap_setCell _ _ _ _ (by exact h0)).trans ?_
            refine (Below.heap_setCell _ _ _ _ (by exact h0)).trans ?_
            refine (Below.heap_setCell _ _ _ _ (by exact h0)).trans ?_
            refine (Below.heap_setCell _ _ _ _ (by exact h0)).trans ?_
            refine (Below.heap_setCell _ _ _ _ (by exact h0)).trans ?_
            refine (Below.heap_setCell _ _ _ _ (by exact h0)).trans ?_
            rfl
          have z_xt : Box wz (w.heap.size + 1) #[.int .i64 tI0, .int .i64 tI1] 40 := (hK _ (by omega)).trans xt
          exact ⟨z_xt.two.1, z_xt.two.2.1⟩
        clear cxr_0 cxr_1 cxr_2 cxr_3 cxr_4 cxr_5 fxr_0 fxr_1 fxr_2 fxr_3 fxr_4 fxr_5
        clear hS
        have hS := hS_
        clear hS_
        revert hS
        generalize hw3 : World.setCell _ _ _ = w3
        have z3 : w2.heap.size ≤ w3.heap.size := by rw [← hw3]; simp [size_drew]
        have B3 : Below w.heap.size w w3 := by rw [← hw3]; repeat (with_reducible (first | assumption | exact Below.refl _ _ | refine Below.alloc ?_ (by first | omega | (simp; done) | (simp; omega)) _ | refine Below.setCell ?_ (by first | omega | (simp; done) | (simp; omega)) _ | refine Below.drew ?_ | refine below_drewN ?_ _))
        have hK : ∀ k, k ≠ w.heap.size + 1 + 1 → k < w2.heap.size → w3.heap[k]? = w2.heap[k]? := by
          intro k h0 hk; rw [← hw3]
          refine (Below.heap_setCell _ _ _ _ (by exact h0)).trans ?_
          refine (Below.heap_setCell _ _ _ _ (by exact h0)).trans ?_
          refine (Below.heap_setCell _ _ _ _ (by exact h0)).trans ?_
          refine (Below.heap_setCell _ _ _ _ (by exact h0)).trans ?_
          refine (Below.heap_setCell _ _ _ _ (by exact h0)).trans ?_
          refine (Below.heap_setCell _ _ _ _ (by exact h0)).trans ?_
          rfl
        have xk_ : Box w3 (w.heap.size) #[.int .i64 kI0, (.slice kA1 kn1 kc1)] 33 := (hK _ (by omega) (by have := xk.lt; omega)).trans xk
        clear xk; have xk := xk_; clear xk_
        have xt_ : Box w3 (w.heap.size + 1) #[.int .i64 tI0, .int .i64 tI1] 40 := (hK _ (by omega) (by have := xt.lt; omega)).trans xt
        clear xt; have xt := xt_; clear xt_
        have xq_ : Box w3 (w.heap.size + 1 + 1 + 1) #[.int .i64 0, .int .i64 0] 40 := (hK _ (by omega) (by have := xq.lt; omega)).trans xq
        clear xq; have xq := xq_; clear xq_
        have xr_ : Box w3 (w.heap.size + 1 + 1) #[.slice none 0 0, .slice none 0 0, .slice none 0 0, .slice none 0 0, .slice none 0 0, .slice none 0 0] 68 := (by rw [← hw3]; exact ((((((xr.drew.setAt (i := 0) (v := .slice none 0 0) (ds := #[.slice none 0 0, .slice none 0 0, .slice none 0 0, .slice none 0 0, .slice none 0 0, .slice none 0 0]) (by simp)).setAt (i := 1) (v := .slice none 0 0) (ds := #[.slice none 0 0, .slice none 0 0, .slice none 0 0, .slice none 0 0, .slice none 0 0, .slice none 0 0]) (by simp)).setAt (i := 2) (v := .slice none 0 0) (ds := #[.slice none 0 0, .slice none 0 0, .slice none 0 0, .slice none 0 0, .slice none 0 0, .slice none 0 0]) (by simp)).setAt (i := 3) (v := .slice none 0 0) (ds := #[.slice none 0 0, .slice none 0 0, .slice none 0 0, .slice none 0 0, .slice none 0 0, .slice none 0 0]) (by simp)).setAt (i := 4) (v := .slice none 0 0) (ds := #[.slice none 0 0, .slice none 0 0, .slice none 0 0, .slice none 0 0, .slice none 0 0, .slice none 0 0]) (by simp)).setAt (i := 5) (v := .slice none 0 0) (ds := #[.slice none 0 0, .slice none 0 0, .slice none 0 0, .slice none 0 0, .slice none 0 0, .slice none 0 0]) (by simp)))
        clear xr; have xr := xr_; clear xr_
        (try clear b3)
        (try clear B2)
        clear hw3 hK
        intro hS
        (try simp only [Act.put, layA, layB, layC])
        refine on 3 ?_
        obtain ⟨cxq_0, cxq_1, fxq_0, fxq_1⟩ := xq.two
        refine skipH (by go_simp; (first | done | with_reducible rfl | exact ⟨rfl, rfl⟩)) ?_ (fun hS_ => ?_)
        · generalize hwz : World.setCell _ _ _ = wz
          have hK : ∀ k, k ≠ w.heap.size + 1 + 1 + 1 → wz.heap[k]? = w3.heap[k]? := by
            intro k h0; rw [← hwz]
            refine (Below.heap_setCell _ _ _ _ (by exact h0)).trans ?_
            refine (Below.heap_setCell _ _ _ _ (by exact h0)).trans ?_
            rfl
          have z_xt : Box wz (w.heap.size + 1) #[.int .i64 tI0, .int .i64 tI1] 40 := (hK _ (by omega)).trans xt
          exact ⟨z_xt.two.1, z_xt.two.2.1⟩
        clear cxq_0 cxq_1 fxq_0 fxq_1
        clear hS
        have hS := hS_
        clear hS_
        (try simp only [Act.put, layA, layB, layC])
        clear hS
        refine wpAnyH_done (by kernel_rfl) ?_ _
        obtain ⟨cxr_0, cxr_1, cxr_2, cxr_3, cxr_4, cxr_5, fxr_0, fxr_1, fxr_2, fxr_3, fxr_4, fxr_5⟩ := xr.six
        have l_xr_0 : w.heap.size + 1 + 1 < w3.heap.size := by omega
        obtain ⟨cxq_0, cxq_1, fxq_0, fxq_1⟩ := xq.two
        have l_xq_0 : w.heap.size + 1 + 1 + 1 < w3.heap.size := by omega
        go_wp2
        refine bodyPost_ret (v := .tuple #[.agg #[.slice none 0 0, .slice none 0 0, .slice none 0 0, .slice none 0 0, .slice none 0 0, .slice none 0 0], .agg #[.int .i64 tI0, .int .i64 tI1]]) ?_ rfl ⟨none, 0, 0, none, 0, 0, none, 0, 0, none, 0, 0, none, 0, 0, none, 0, 0, by rw [mT_no HO.out], ?_, ?_⟩
        · simp [results, Try.results72, go_sem, cxr_0, cxr_1, cxr_2, cxr_3, cxr_4, cxr_5, fxr_0, fxr_1, fxr_2, fxr_3, fxr_4, fxr_5, l_xr_0, cxq_0, cxq_1, fxq_0, fxq_1, l_xq_0]
        · rw [mAS_no HO.out, mAM_no HO.out, mBS_no HO.out, mBM_no HO.out, mCS_no HO.out, mCM_no HO.out]; exact OwnL.nones _ (by simp) (by first | omega | (simp [size_drew]; done) | (simp [size_drew]; omega))
        · repeat (with_reducible (first | assumption | exact Below.refl _ _ | refine Below.alloc ?_ (by first | omega | (simp; done) | (simp; omega)) _ | refine Below.setCell ?_ (by first | omega | (simp; done) | (simp; omega)) _ | refine Below.drew ?_ | refine below_drewN ?_ _))
      | false =>
        have q3 : decide (tI1 ≤ 800000) = true := by simp at k3 ⊢; omega
        have HO : Hid (mOk kI0 kL1 tI0 tI1 = true) := by show _ = _; simp [mOk, k1, k2, q3]
        go_enter Try.func72, Try.ntmps72
        go_wp2_with fail
        refine (sKeysOk_L kI0 (RdL.b kH) kL1n).mono ?_
        rintro e w1 ⟨rfl, b1⟩
        have z1 := b1.size
        try simp only [World.size_alloc, World.size_setCell, size_drew] at z1
        have B1 : Below w.heap.size w w1 := Below.t b1
        have xk_ : Box w1 (w.heap.size) #[.int .i64 kI0, (.slice kA1 kn1 kc1)] 33 := ((((Box.new (g := w.heap.size) _ #[.int .i64 kI0, (.slice kA1 kn1 kc1)] 33 (by simp)).alloc _).alloc _).alloc _).below b1 (by first | omega | (simp [size_drew]; done) | (simp [size_drew]; omega))
        have xk := xk_; clear xk_
        have xt_ : Box w1 (w.heap.size + 1) #[.int .i64 tI0, .int .i64 tI1] 40 := (((Box.new (g := w.heap.size + 1) _ #[.int .i64 tI0, .int .i64 tI1] 40 (by simp)).alloc _).alloc _).below b1 (by first | omega | (simp [size_drew]; done) | (simp [size_drew]; omega))
        have xt := xt_; clear xt_
        have xr_ : Box w1 (w.heap.size + 1 + 1) #[.slice none 0 0, .slice none 0 0, .slice none 0 0, .slice none 0 0, .slice none 0 0, .slice none 0 0] 68 := ((Box.new (g := w.heap.size + 1 + 1) _ #[.slice none 0 0, .slice none 0 0, .slice none 0 0, .slice none 0 0, .slice none 0 0, .slice none 0 0] 68 (by simp)).alloc _).below b1 (by first | omega | (simp [size_drew]; done) | (simp [size_drew]; omega))
        have xr := xr_; clear xr_
        have xq_ : Box w1 (w.heap.size + 1 + 1 + 1) #[.int .i64 0, .int .i64 0] 40 := (Box.new (g := w.heap.size + 1 + 1 + 1) _ #[.int .i64 0, .int .i64 0] 40 (by simp)).below b1 (by first | omega | (simp [size_drew]; done) | (simp [size_drew]; omega))
        have xq := xq_; clear xq_
        (try clear b1)
        obtain ⟨cxt_0, cxt_1, fxt_0, fxt_1⟩ := xt.two
        have l_xt_0 : w.heap.size + 1 < w1.heap.size := by omega
        go_wp2_with fail
        refine (sTapeOk_any tI0 tI1 _).mono ?_
        rintro e w2 ⟨rfl, b2⟩
        clear cxt_0 cxt_1 fxt_0 fxt_1 l_xt_0
        have z2 := b2.size
        try simp only [World.size_alloc, World.size_setCell, size_drew] at z2
        have B2 : Below w.heap.size w w2 := Below.t b2
        have xk_ : Box w2 (w.heap.size) #[.int .i64 kI0, (.slice kA1 kn1 kc1)] 33 := xk.below b2 (by first | omega | (simp [size_drew]; done) | (simp [size_drew]; omega))
        clear xk; have xk := xk_; clear xk_
        have xt_ : Box w2 (w.heap.size + 1) #[.int .i64 tI0, .int .i64 tI1] 40 := xt.below b2 (by first | omega | (simp [size_drew]; done) | (simp [size_drew]; omega))
        clear xt; have xt := xt_; clear xt_
        have xr_ : Box w2 (w.heap.size + 1 + 1) #[.slice none 0 0, .slice none 0 0, .slice none 0 0, .slice none 0 0, .slice none 0 0, .slice none 0 0] 68 := xr.below b2 (by first | omega | (simp [size_drew]; done) | (simp [size_drew]; omega))
        clear xr; have xr := xr_; clear xr_
        have xq_ : Box w2 (w.heap.size + 1 + 1 + 1) #[.int .i64 0, .int .i64 0] 40 := xq.below b2 (by first | omega | (simp [size_drew]; done) | (simp [size_drew]; omega))
        clear xq; have xq := xq_; clear xq_
        (try clear b2)
        (try clear B1)
        obtain ⟨cxk_0, cxk_1, fxk_0, fxk_1⟩ := xk.two
        have l_xk_0 : w.heap.size < w2.heap.size := by omega
        obtain ⟨cxt_0, cxt_1, fxt_0, fxt_1⟩ := xt.two
        have l_xt_0 : w.heap.size + 1 < w2.heap.size := by omega
        go_wp2_with fail
        refine (sTapeBelow_any tI0 (tI1) kI0 _).mono ?_
        rintro e w3 ⟨rfl, b3⟩
        clear cxk_0 cxk_1 fxk_0 fxk_1 l_xk_0 cxt_0 cxt_1 fxt_0 fxt_1 l_xt_0
        have z3 := b3.size
        try simp only [World.size_alloc, World.size_setCell, size_drew] at z3
        have B3 : Below w.heap.size w w3 := Below.t b3
        have xk_ : Box w3 (w.heap.size) #[.int .i64 kI0, (.slice kA1 kn1 kc1)] 33 := xk.below b3 (by first | omega | (simp [size_drew]; done) | (simp [size_drew]; omega))
        clear xk; have xk := xk_; clear xk_
        have xt_ : Box w3 (w.heap.size + 1) #[.int .i64 tI0, .int .i64 tI1] 40 := xt.below b3 (by first | omega | (simp [size_drew]; done) | (simp [size_drew]; omega))
        clear xt; have xt := xt_; clear xt_
        have xr_ : Box w3 (w.heap.size + 1 + 1) #[.slice none 0 0, .slice none 0 0, .slice none 0 0, .slice none 0 0, .slice none 0 0, .slice none 0 0] 68 := xr.below b3 (by first | omega | (simp [size_drew]; done) | (simp [size_drew]; omega))
        clear xr; have xr := xr_; clear xr_
        have xq_ : Box w3 (w.heap.size + 1 + 1 + 1) #[.int .i64 0, .int .i64 0] 40 := xq.below b3 (by first | omega | (simp [size_drew]; done) | (simp [size_drew]; omega))
        clear xq; have xq := xq_; clear xq_
        (try clear b3)
        (try clear B2)
        obtain ⟨cxk_0, cxk_1, fxk_0, fxk_1⟩ := xk.two
        have l_xk_0 : w.heap.size < w3.heap.size := by omega
        have l_xk_1 : w.heap.size < w3.heap.size + 1 := by omega
        go_wp2_with fail
        refine (sTapeBelow_any tI0 (tapeM tI0 tI1 kI0) kI0 _).mono ?_
        rintro e w4 ⟨rfl, b4⟩
        clear cxk_0 cxk_1 fxk_0 fxk_1 l_xk_0 l_xk_1
        have z4 := b4.size
        try simp only [World.size_alloc, World.size_setCell, size_drew] at z4
        have B4 : Below w.heap.size w w4 := Below.t b4
        have xk_ : Box w4 (w.heap.size) #[.int .i64 kI0, (.slice kA1 kn1 kc1)] 33 := (xk.alloc _).below b4 (by first | omega | (simp [size_drew]; done) | (simp [size_drew]; omega))
        clear xk; have xk := xk_; clear xk_
        have xt_ : Box w4 (w.heap.size + 1) #[.int .i64 tI0, .int .i64 tI1] 40 := (xt.alloc _).below b4 (by first | omega | (simp [size_drew]; done) | (simp [size_drew]; omega))
        clear xt; have xt := xt_; clear xt_
        have xr_ : Box w4 (w.heap.size + 1 + 1) #[.slice none 0 0, .slice none 0 0, .slice none 0 0, .slice none 0 0, .slice none 0 0, .slice none 0 0] 68 := (xr.alloc _).below b4 (by first | omega | (simp [size_drew]; done) | (simp [size_drew]; omega))
        clear xr; have xr := xr_; clear xr_
        have xq_ : Box w4 (w.heap.size + 1 + 1 + 1) #[.int .i64 0, .int .i64 0] 40 := (xq.alloc _).below b4 (by first | omega | (simp [size_drew]; done) | (simp [size_drew]; omega))
        clear xq; have xq := xq_; clear xq_
        have x1_ : Box w4 (w3.heap.size) #[.int .i64 tI0, .int .i64 (tapeM tI0 tI1 kI0)] 40 := (Box.new (g := w3.heap.size) _ #[.int .i64 tI0, .int .i64 (tapeM tI0 tI1 kI0)] 40 (by simp)).below b4 (by first | omega | (simp [size_drew]; done) | (simp [size_drew]; omega))
        have x1 := x1_; clear x1_
        (try clear b4)
        (try clear B3)
        obtain ⟨cxk_0, cxk_1, fxk_0, fxk_1⟩ := xk.two
        have l_xk_0 : w.heap.size < w4.heap.size := by omega
        have l_xk_1 : w.heap.size < w4.heap.size + 1 := by omega
        go_wp2_with fail
        refine (sAuthNew_L kI0 (RdL.b kH) kL1n (tapeB tI0 tI1 kI0) tI0 (tapeM tI0 (tapeM tI0 tI1 kI0) kI0)).mono ?_
        rintro e w5 ⟨pA0, pn0, pc0, pA1, pn1, pc1, rfl, rp, b5⟩
        clear cxk_0 cxk_1 fxk_0 fxk_1 l_xk_0 l_xk_1
        have z5 := b5.size
        try simp only [World.size_alloc, World.size_setCell, size_drew] at z5
        have B5 : Below w.heap.size w w5 := Below.t b5
        have xk_ : Box w5 (w.heap.size) #[.int .i64 kI0, (.slice kA1 kn1 kc1)] 33 := (xk.alloc _).below b5 (by first | omega | (simp [size_drew]; done) | (simp [size_drew]; omega))
        clear xk; have xk := xk_; clear xk_
        have xt_ : Box w5 (w.heap.size + 1) #[.int .i64 tI0, .int .i64 tI1] 40 := (xt.alloc _).below b5 (by first | omega | (simp [size_drew]; done) | (simp [size_drew]; omega))
        clear xt; have xt := xt_; clear xt_
        have xr_ : Box w5 (w.heap.size + 1 + 1) #[.slice none 0 0, .slice none 0 0, .slice none 0 0, .slice none 0 0, .slice none 0 0, .slice none 0 0] 68 := (xr.alloc _).below b5 (by first | omega | (simp [size_drew]; done) | (simp [size_drew]; omega))
        clear xr; have xr := xr_; clear xr_
        have xq_ : Box w5 (w.heap.size + 1 + 1 + 1) #[.int .i64 0, .int .i64 0] 40 := (xq.alloc _).below b5 (by first | omega | (simp [size_drew]; done) | (simp [size_drew]; omega))
        clear xq; have xq := xq_; clear xq_
        have x1_ : Box w5 (w3.heap.size) #[.int .i64 tI0, .int .i64 (tapeM tI0 tI1 kI0)] 40 := (x1.alloc _).below b5 (by first | omega | (simp [size_drew]; done) | (simp [size_drew]; omega))
        clear x1; have x1 := x1_; clear x1_
        have x2_ : Box w5 (w4.heap.size) #[.int .i64 tI0, .int .i64 (tapeM tI0 (tapeM tI0 tI1 kI0) kI0)] 40 := (Box.new (g := w4.heap.size) _ #[.int .i64 tI0, .int .i64 (tapeM tI0 (tapeM tI0 tI1 kI0) kI0)] 40 (by simp)).below b5 (by first | omega | (simp [size_drew]; done) | (simp [size_drew]; omega))
        have x2 := x2_; clear x2_
        (try clear b5)
        (try clear B4)
        try simp only [World.size_alloc, World.size_setCell, size_drew] at rp
        obtain ⟨cxk_0, cxk_1, fxk_0, fxk_1⟩ := xk.two
        have l_xk_0 : w.heap.size < w5.heap.size := by omega
        have l_xk_1 : w.heap.size < w5.heap.size + 1 := by omega
        have l_xk_2 : w.heap.size < w5.heap.size + 1 + 1 := by omega
        go_wp2_with fail
        refine (sAuthNew_L kI0 (RdL.b kH) kL1n (tapeB tI0 (tapeM tI0 tI1 kI0) kI0) tI0 (nT kI0 kL1 (tapeB tI0 tI1 kI0) tI0 (tapeM tI0 (tapeM tI0 tI1 kI0) kI0))).mono ?_
        rintro e w6 ⟨qA0, qn0, qc0, qA1, qn1, qc1, rfl, rq, b6⟩
        clear cxk_0 cxk_1 fxk_0 fxk_1 l_xk_0 l_xk_1 l_xk_2
        have z6 := b6.size
        try simp only [World.size_alloc, World.size_setCell, size_drew] at z6
        have B6 : Below w.heap.size w w6 := Below.t b6
        have rp_ := ((rp.alloc _).alloc _).below b6
        clear rp; have rp := rp_; clear rp_
        have xk_ : Box w6 (w.heap.size) #[.int .i64 kI0, (.slice kA1 kn1 kc1)] 33 := ((xk.alloc _).alloc _).below b6 (by first | omega | (simp [size_drew]; done) | (simp [size_drew]; omega))
        clear xk; have xk := xk_; clear xk_
        have xt_ : Box w6 (w.heap.size + 1) #[.int .i64 tI0, .int .i64 tI1] 40 := ((xt.alloc _).alloc _).below b6 (by first | omega | (simp [size_drew]; done) | (simp [size_drew]; omega))
        clear xt; have xt := xt_; clear xt_
        have xr_ : Box w6 (w.heap.size + 1 + 1) #[.slice none 0 0, .slice none 0 0, .slice none 0 0, .slice none 0 0, .slice none 0 0, .slice none 0 0] 68 := ((xr.alloc _).alloc _).below b6 (by first | omega | (simp [size_drew]; done) | (simp [size_drew]; omega))
        clear xr; have xr := xr_; clear xr_
        have xq_ : Box w6 (w.heap.size + 1 + 1 + 1) #[.int .i64 0, .int .i64 0] 40 := ((xq.alloc _).alloc _).below b6 (by first | omega | (simp [size_drew]; done) | (simp [size_drew]; omega))
        clear xq; have xq := xq_; clear xq_
        have x1_ : Box w6 (w3.heap.size) #[.int .i64 tI0, .int .i64 (tapeM tI0 tI1 kI0)] 40 := ((x1.alloc _).alloc _).below b6 (by first | omega | (simp [size_drew]; done) | (simp [size_drew]; omega))
        clear x1; have x1 := x1_; clear x1_
        have x2_ : Box w6 (w4.heap.size) #[.int .i64 tI0, .int .i64 (tapeM tI0 (tapeM tI0 tI1 kI0) kI0)] 40 := ((x2.alloc _).alloc _).below b6 (by first | omega | (simp [size_drew]; done) | (simp [size_drew]; omega))
        clear x2; have x2 := x2_; clear x2_
        have ya_ : Box w6 (w5.heap.size) #[.slice pA0 pn0 pc0, .slice pA1 pn1 pc1] 38 := ((Box.new (g := w5.heap.size) _ #[.slice pA0 pn0 pc0, .slice pA1 pn1 pc1] 38 (by simp)).alloc _).below b6 (by first | omega | (simp [size_drew]; done) | (simp [size_drew]; omega))
        have ya := ya_; clear ya_
        have x3_ : Box w6 (w5.heap.size + 1) #[.int .i64 tI0, .int .i64 (nT kI0 kL1 (tapeB tI0 tI1 kI0) tI0 (tapeM tI0 (tapeM tI0 tI1 kI0) kI0))] 40 := (Box.new (g := w5.heap.size + 1) _ #[.int .i64 tI0, .int .i64 (nT kI0 kL1 (tapeB tI0 tI1 kI0) tI0 (tapeM tI0 (tapeM tI0 tI1 kI0) kI0))] 40 (by simp)).below b6 (by first | omega | (simp [size_drew]; done) | (simp [size_drew]; omega))
        have x3 := x3_; clear x3_
        (try clear b6)
        (try clear B5)
        try simp only [World.size_alloc, World.size_setCell, size_drew] at rq
        obtain ⟨cxk_0, cxk_1, fxk_0, fxk_1⟩ := xk.two
        have l_xk_0 : w.heap.size < w6.heap.size := by omega
        have l_xk_1 : w.heap.size < w6.heap.size + 1 := by omega
        have l_xk_2 : w.heap.size < w6.heap.size + 1 + 1 := by omega
        go_wp2_with fail
        clear cxk_0 cxk_1 fxk_0 fxk_1 l_xk_0 l_xk_1 l_xk_2
        generalize hw7 : World.alloc _ _ = w7
        have z7 : w6.heap.size + 1 + 1 ≤ w7.heap.size := by rw [← hw7]; simp
        have B7 : Below w.heap.size w w7 := by rw [← hw7]; repeat (with_reducible (first | assumption | exact Below.refl _ _ | refine Below.alloc ?_ (by first | omega | (simp; done) | (simp; omega)) _ | refine Below.setCell ?_ (by first | omega | (simp; done) | (simp; omega)) _ | refine Below.drew ?_ | refine below_drewN ?_ _))
        have hK : ∀ k, k < w6.heap.size → w7.heap[k]? = w6.heap[k]? := by
          intro k hk; rw [← hw7]
          repeat (first | rfl | refine (Below.heap_alloc _ _ _ (by first | omega | (simp; omega))).trans ?_)
        have rp_ := rp.keepBlock (w' := w7) (by omega) (fun k h1 h2 => hK k  (by have := rp.2.1; omega))
        clear rp; have rp := rp_; clear rp_
        have rq_ := rq.keepBlock (w' := w7) (by omega) (fun k h1 h2 => hK k  (by have := rq.2.1; omega))
        clear rq; have rq := rq_; clear rq_
        have xk_ : Box w7 (w.heap.size) #[.int .i64 kI0, (.slice kA1 kn1 kc1)] 33 := (by rw [← hw7]; exact ((xk.alloc _).alloc _))
        clear xk; have xk := xk_; clear xk_
        have xt_ : Box w7 (w.heap.size + 1) #[.int .i64 tI0, .int .i64 tI1] 40 := (by rw [← hw7]; exact ((xt.alloc _).alloc _))
        clear xt; have xt := xt_; clear xt_
        have xr_ : Box w7 (w.heap.size + 1 + 1) #[.slice none 0 0, .slice none 0 0, .slice none 0 0, .slice none 0 0, .slice none 0 0, .slice none 0 0] 68 := (by rw [← hw7]; exact ((xr.alloc _).alloc _))
        clear xr; have xr := xr_; clear xr_
        have xq_ : Box w7 (w.heap.size + 1 + 1 + 1) #[.int .i64 0, .int .i64 0] 40 := (by rw [← hw7]; exact ((xq.alloc _).alloc _))
        clear xq; have xq := xq_; clear xq_
        have x1_ : Box w7 (w3.heap.size) #[.int .i64 tI0, .int .i64 (tapeM tI0 tI1 kI0)] 40 := (by rw [← hw7]; exact ((x1.alloc _).alloc _))
        clear x1; have x1 := x1_; clear x1_
        have x2_ : Box w7 (w4.heap.size) #[.int .i64 tI0, .int .i64 (tapeM tI0 (tapeM tI0 tI1 kI0) kI0)] 40 := (by rw [← hw7]; exact ((x2.alloc _).alloc _))
        clear x2; have x2 := x2_; clear x2_
        have ya_ : Box w7 (w5.heap.size) #[.slice pA0 pn0 pc0, .slice pA1 pn1 pc1] 38 := (by rw [← hw7]; exact ((ya.alloc _).alloc _))
        clear ya; have ya := ya_; clear ya_
        have x3_ : Box w7 (w5.heap.size + 1) #[.int .i64 tI0, .int .i64 (nT kI0 kL1 (tapeB tI0 tI1 kI0) tI0 (tapeM tI0 (tapeM tI0 tI1 kI0) kI0))] 40 := (by rw [← hw7]; exact ((x3.alloc _).alloc _))
        clear x3; have x3 := x3_; clear x3_
        have yb_ : Box w7 (w6.heap.size) #[.slice qA0 qn0 qc0, .slice qA1 qn1 qc1] 38 := (by rw [← hw7]; exact ((Box.new (g := w6.heap.size) _ #[.slice qA0 qn0 qc0, .slice qA1 qn1 qc1] 38 (by simp)).alloc _))
        have yb := yb_; clear yb_
        have x4_ : Box w7 (w6.heap.size + 1) #[.int .i64 tI0, .int .i64 (nT kI0 kL1 (tapeB tI0 (tapeM tI0 tI1 kI0) kI0) tI0 (nT kI0 kL1 (tapeB tI0 tI1 kI0) tI0 (tapeM tI0 (tapeM tI0 tI1 kI0) kI0)))] 40 := (by rw [← hw7]; exact (Box.new (g := w6.heap.size + 1) _ #[.int .i64 tI0, .int .i64 (nT kI0 kL1 (tapeB tI0 (tapeM tI0 tI1 kI0) kI0) tI0 (nT kI0 kL1 (tapeB tI0 tI1 kI0) tI0 (tapeM tI0 (tapeM tI0 tI1 kI0) kI0)))] 40 (by simp)))
        have x4 := x4_; clear x4_
        (try clear b7)
        (try clear B6)
        clear hw7 hK
        obtain ⟨cxk_0, cxk_1, fxk_0, fxk_1⟩ := xk.two
        have l_xk_0 : w.heap.size < w7.heap.size := by omega
        obtain ⟨cx4_0, cx4_1, fx4_0, fx4_1⟩ := x4.two
        have l_x4_0 : w6.heap.size + 1 < w7.heap.size := by omega
        go_wp2_with fail
        clear cxk_0 cxk_1 fxk_0 fxk_1 l_xk_0 cx4_0 cx4_1 fx4_0 fx4_1 l_x4_0
        refine wp_region_M [13, 14] (w7.heap.size) 15 (S := fun W => Below w.heap.size w W ∧ Below w7.heap.size w7 W ∧ W.cell? ⟨w.heap.size, 0, none⟩ = some (.int .i64 kI0) ∧ W.cell? ⟨w.heap.size, 1, none⟩ = some ((.slice kA1 kn1 kc1)) ∧ W.cell? ⟨w6.heap.size + 1, 0, none⟩ = some (.int .i64 tI0) ∧ W.cell? ⟨w6.heap.size + 1, 1, none⟩ = some (.int .i64 (nT kI0 kL1 (tapeB tI0 (tapeM tI0 tI1 kI0) kI0) tI0 (nT kI0 kL1 (tapeB tI0 tI1 kI0) tI0 (tapeM tI0 (tapeM tI0 tI1 kI0) kI0))))) (by kernel_rfl) (by rfl) (fun W hW => ⟨Below.trans (b := _) (by repeat (with_reducible (first | assumption | exact Below.refl _ _ | refine Below.alloc ?_ (by first | omega | (simp; done) | (simp; omega)) _ | refine Below.setCell ?_ (by first | omega | (simp; done) | (simp; omega)) _ | refine Below.drew ?_ | refine below_drewN ?_ _))) (Below.mono hW (by first | omega | (simp [size_drew]; done) | (simp [size_drew]; omega))), Below.trans (b := _) (by repeat (with_reducible (first | assumption | exact Below.refl _ _ | refine Below.alloc ?_ (by first | omega | (simp; done) | (simp; omega)) _ | refine Below.setCell ?_ (by first | omega | (simp; done) | (simp; omega)) _ | refine Below.drew ?_ | refine below_drewN ?_ _))) (Below.mono hW (by first | omega | (simp [size_drew]; done) | (simp [size_drew]; omega))), (Box.below xk.drew hW (by first | omega | (simp [size_drew]; done) | (simp [size_drew]; omega))).two.1, (Box.below xk.drew hW (by first | omega | (simp [size_drew]; done) | (simp [size_drew]; omega))).two.2.1, (Box.below x4.drew hW (by first | omega | (simp [size_drew]; done) | (simp [size_drew]; omega))).two.1, (Box.below x4.drew hW (by first | omega | (simp [size_drew]; done) | (simp [size_drew]; omega))).two.2.1⟩) (by first | omega | (simp [size_drew]; done) | (simp [size_drew]; omega)) (fun hS hG => ?_)
        (try dsimp only at hS)
        refine pendM 11 14 #[.slice none 0 0, .slice none 0 0] 38 (by simp only [List.getElem?_toArray, List.getElem?_cons_succ, List.getElem?_cons_zero] <;> rfl) (by kernel_rfl) (by exact fun _ _ _ _ h => h) (by intro a W; unfold ptr; go_simp; (first | done | rfl)) hG ?_
        refine pendM 12 15 #[.int .i64 0, .int .i64 0] 40 (by simp only [List.getElem?_toArray, List.getElem?_cons_succ, List.getElem?_cons_zero] <;> rfl) (by kernel_rfl) (by exact fun _ _ _ _ h => h) (by intro a W; unfold ptr; go_simp; (first | done | rfl)) hG ?_
        (refine tkM 0 hG hS ?_; (try simp only [Act.put, layA, layB, layC]))
        (refine tkM 1 hG hS ?_; (try simp only [Act.put, layA, layB, layC]))
        (refine tkM 2 hG hS ?_; (try simp only [Act.put, layA, layB, layC]))
        (refine tkM 3 hG hS ?_; (try simp only [Act.put, layA, layB, layC]))
        (refine tkM 4 hG hS ?_; (try simp only [Act.put, layA, layB, layC]))
        (refine tkM 6 hG hS ?_; (try simp only [Act.put, layA, layB, layC]))
        refine callM hG (i := 5) (by simp only [List.getElem?_toArray, List.getElem?_cons_succ, List.getElem?_cons_zero] <;> rfl) (by kernel_rfl) (by rfl) (by rfl) (by intro W hW; have hSw := hS W hW; (try dsimp only at hSw); go_simp; (first | done | with_reducible rfl | exact ⟨rfl, rfl⟩)) ?_
        intro w8 b8
        have B8 : Below w.heap.size w w8 := (hS w8 b8).1
        have z8 := Below.size b8
        (try simp only [World.size_alloc, World.size_setCell, size_drew] at z8)
        have rp_ := (rp.drew.below b8)
        clear rp; have rp := rp_; clear rp_
        have rq_ := (rq.drew.below b8)
        clear rq; have rq := rq_; clear rq_
        have xk_ : Box w8 (w.heap.size) #[.int .i64 kI0, (.slice kA1 kn1 kc1)] 33 := (Box.b xk.drew b8)
        clear xk; have xk := xk_; clear xk_
        have xt_ : Box w8 (w.heap.size + 1) #[.int .i64 tI0, .int .i64 tI1] 40 := (Box.b xt.drew b8)
        clear xt; have xt := xt_; clear xt_
        have xr_ : Box w8 (w.heap.size + 1 + 1) #[.slice none 0 0, .slice none 0 0, .slice none 0 0, .slice none 0 0, .slice none 0 0, .slice none 0 0] 68 := (Box.b xr.drew b8)
        clear xr; have xr := xr_; clear xr_
        have xq_ : Box w8 (w.heap.size + 1 + 1 + 1) #[.int .i64 0, .int .i64 0] 40 := (Box.b xq.drew b8)
        clear xq; have xq := xq_; clear xq_
        have x1_ : Box w8 (w3.heap.size) #[.int .i64 tI0, .int .i64 (tapeM tI0 tI1 kI0)] 40 := (Box.b x1.drew b8)
        clear x1; have x1 := x1_; clear x1_
        have x2_ : Box w8 (w4.heap.size) #[.int .i64 tI0, .int .i64 (tapeM tI0 (tapeM tI0 tI1 kI0) kI0)] 40 := (Box.b x2.drew b8)
        clear x2; have x2 := x2_; clear x2_
        have ya_ : Box w8 (w5.heap.size) #[.slice pA0 pn0 pc0, .slice pA1 pn1 pc1] 38 := (Box.b ya.drew b8)
        clear ya; have ya := ya_; clear ya_
        have x3_ : Box w8 (w5.heap.size + 1) #[.int .i64 tI0, .int .i64 (nT kI0 kL1 (tapeB tI0 tI1 kI0) tI0 (tapeM tI0 (tapeM tI0 tI1 kI0) kI0))] 40 := (Box.b x3.drew b8)
        clear x3; have x3 := x3_; clear x3_
        have yb_ : Box w8 (w6.heap.size) #[.slice qA0 qn0 qc0, .slice qA1 qn1 qc1] 38 := (Box.b yb.drew b8)
        clear yb; have yb := yb_; clear yb_
        have x4_ : Box w8 (w6.heap.size + 1) #[.int .i64 tI0, .int .i64 (nT kI0 kL1 (tapeB tI0 (tapeM tI0 tI1 kI0) kI0) tI0 (nT kI0 kL1 (tapeB tI0 tI1 kI0) tI0 (tapeM tI0 (tapeM tI0 tI1 kI0) kI0)))] 40 := (Box.b x4.drew b8)
        clear x4; have x4 := x4_; clear x4_
        (try clear b8)
        (try clear B7)
        clear hS hG
        go_at_call 105
        refine (sFMul_any _ _ _ _).mono ?_
        rintro e w_ ⟨rfl, rfl⟩
        refine ⟨_, rfl, Later.refl _, fun hG => ?_⟩
        (try simp only [Act.put, layA, layB, layC])
        have hS : ∀ W, Later w8 W → (Below w.heap.size w W ∧ Below w8.heap.size w8 W ∧ W.cell? ⟨w.heap.size, 0, none⟩ = some (.int .i64 kI0) ∧ W.cell? ⟨w.heap.size, 1, none⟩ = some ((.slice kA1 kn1 kc1)) ∧ W.cell? ⟨w6.heap.size + 1, 0, none⟩ = some (.int .i64 tI0) ∧ W.cell? ⟨w6.heap.size + 1, 1, none⟩ = some (.int .i64 (nT kI0 kL1 (tapeB tI0 (tapeM tI0 tI1 kI0) kI0) tI0 (nT kI0 kL1 (tapeB tI0 tI1 kI0) tI0 (tapeM tI0 (tapeM tI0 tI1 kI0) kI0))))) := fun W hW => ⟨Below.trans (b := _) (by repeat (with_reducible (first | assumption | exact Below.refl _ _ | refine Below.alloc ?_ (by first | omega | (simp; done) | (simp; omega)) _ | refine Below.setCell ?_ (by first | omega | (simp; done) | (simp; omega)) _ | refine Below.drew ?_ | refine below_drewN ?_ _))) (Below.mono hW (by first | omega | (simp [size_drew]; done) | (simp [size_drew]; omega))), Below.trans (b := _) (by repeat (with_reducible (first | assumption | exact Below.refl _ _ | refine Below.alloc ?_ (by first | omega | (simp; done) | (simp; omega)) _ | refine Below.setCell ?_ (by first | omega | (simp; done) | (simp; omega)) _ | refine Below.drew ?_ | refine below_drewN ?_ _))) (Below.mono hW (by first | omega | (simp [size_drew]; done) | (simp [size_drew]; omega))), (Box.below xk hW (by first | omega | (simp [size_drew]; done) | (simp [size_drew]; omega))).two.1, (Box.below xk hW (by first | omega | (simp [size_drew]; done) | (simp [size_drew]; omega))).two.2.1, (Box.below x4 hW (by first | omega | (simp [size_drew]; done) | (simp [size_drew]; omega))).two.1, (Box.below x4 hW (by first | omega | (simp [size_drew]; done) | (simp [size_drew]; omega))).two.2.1⟩
        refine callM hG (i := 7) (by simp only [List.getElem?_toArray, List.getElem?_cons_succ, List.getElem?_cons_zero] <;> rfl) (by kernel_rfl) (by rfl) (by rfl) (by intro W hW; have hSw := hS W hW; (try dsimp only at hSw); go_simp; (first | done | with_reducible rfl | exact ⟨rfl, rfl⟩)) ?_
        intro w9 b9
        have B9 : Below w.heap.size w w9 := (hS w9 b9).1
        have z9 := Below.size b9
        (try simp only [World.size_alloc, World.size_setCell, size_drew] at z9)
        have rp_ := (rp.below b9)
        clear rp; have rp := rp_; clear rp_
        have rq_ := (rq.below b9)
        clear rq; have rq := rq_; clear rq_
        have xk_ : Box w9 (w.heap.size) #[.int .i64 kI0, (.slice kA1 kn1 kc1)] 33 := (Box.b xk b9)
        clear xk; have xk := xk_; clear xk_
        have xt_ : Box w9 (w.heap.size + 1) #[.int .i64 tI0, .int .i64 tI1] 40 := (Box.b xt b9)
        clear xt; have xt := xt_; clear xt_
        have xr_ : Box w9 (w.heap.size + 1 + 1) #[.slice none 0 0, .slice none 0 0, .slice none 0 0, .slice none 0 0, .slice none 0 0, .slice none 0 0] 68 := (Box.b xr b9)
        clear xr; have xr := xr_; clear xr_
        have xq_ : Box w9 (w.heap.size + 1 + 1 + 1) #[.int .i64 0, .int .i64 0] 40 := (Box.b xq b9)
        clear xq; have xq := xq_; clear xq_
        have x1_ : Box w9 (w3.heap.size) #[.int .i64 tI0, .int .i64 (tapeM tI0 tI1 kI0)] 40 := (Box.b x1 b9)
        clear x1; have x1 := x1_; clear x1_
        have x2_ : Box w9 (w4.heap.size) #[.int .i64 tI0, .int .i64 (tapeM tI0 (tapeM tI0 tI1 kI0) kI0)] 40 := (Box.b x2 b9)
        clear x2; have x2 := x2_; clear x2_
        have ya_ : Box w9 (w5.heap.size) #[.slice pA0 pn0 pc0, .slice pA1 pn1 pc1] 38 := (Box.b ya b9)
        clear ya; have ya := ya_; clear ya_
        have x3_ : Box w9 (w5.heap.size + 1) #[.int .i64 tI0, .int .i64 (nT kI0 kL1 (tapeB tI0 tI1 kI0) tI0 (tapeM tI0 (tapeM tI0 tI1 kI0) kI0))] 40 := (Box.b x3 b9)
        clear x3; have x3 := x3_; clear x3_
        have yb_ : Box w9 (w6.heap.size) #[.slice qA0 qn0 qc0, .slice qA1 qn1 qc1] 38 := (Box.b yb b9)
        clear yb; have yb := yb_; clear yb_
        have x4_ : Box w9 (w6.heap.size + 1) #[.int .i64 tI0, .int .i64 (nT kI0 kL1 (tapeB tI0 (tapeM tI0 tI1 kI0) kI0) tI0 (nT kI0 kL1 (tapeB tI0 tI1 kI0) tI0 (tapeM tI0 (tapeM tI0 tI1 kI0) kI0)))] 40 := (Box.b x4 b9)
        clear x4; have x4 := x4_; clear x4_
        (try clear b9)
        (try clear B8)
        clear hS hG
        go_at_call 78
        refine (sAuthNew_L kI0 (RdL.b kH) kL1n (fmul kI0 (tapeB tI0 tI1 kI0) (tapeB tI0 (tapeM tI0 tI1 kI0) kI0)) tI0 (nT kI0 kL1 (tapeB tI0 (tapeM tI0 tI1 kI0) kI0) tI0 (nT kI0 kL1 (tapeB tI0 tI1 kI0) tI0 (tapeM tI0 (tapeM tI0 tI1 kI0) kI0)))).mono ?_
        rintro e w10 ⟨uA0, un0, uc0, uA1, un1, uc1, rfl, ru, b10⟩
        refine ⟨_, rfl, b10, fun hG => ?_⟩
        have z10 := Below.size b10
        have B10 : Below w.heap.size w w10 := Below.t b10
        have rp_ := (rp.below b10)
        clear rp; have rp := rp_; clear rp_
        have rq_ := (rq.below b10)
        clear rq; have rq := rq_; clear rq_
        have xk_ : Box w10 (w.heap.size) #[.int .i64 kI0, (.slice kA1 kn1 kc1)] 33 := (Box.b xk b10)
        clear xk; have xk := xk_; clear xk_
        have xt_ : Box w10 (w.heap.size + 1) #[.int .i64 tI0, .int .i64 tI1] 40 := (Box.b xt b10)
        clear xt; have xt := xt_; clear xt_
        have xr_ : Box w10 (w.heap.size + 1 + 1) #[.slice none 0 0, .slice none 0 0, .slice none 0 0, .slice none 0 0, .slice none 0 0, .slice none 0 0] 68 := (Box.b xr b10)
        clear xr; have xr := xr_; clear xr_
        have xq_ : Box w10 (w.heap.size + 1 + 1 + 1) #[.int .i64 0, .int .i64 0] 40 := (Box.b xq b10)
        clear xq; have xq := xq_; clear xq_
        have x1_ : Box w10 (w3.heap.size) #[.int .i64 tI0, .int .i64 (tapeM tI0 tI1 kI0)] 40 := (Box.b x1 b10)
        clear x1; have x1 := x1_; clear x1_
        have x2_ : Box w10 (w4.heap.size) #[.int .i64 tI0, .int .i64 (tapeM tI0 (tapeM tI0 tI1 kI0) kI0)] 40 := (Box.b x2 b10)
        clear x2; have x2 := x2_; clear x2_
        have ya_ : Box w10 (w5.heap.size) #[.slice pA0 pn0 pc0, .slice pA1 pn1 pc1] 38 := (Box.b ya b10)
        clear ya; have ya := ya_; clear ya_
        have x3_ : Box w10 (w5.heap.size + 1) #[.int .i64 tI0, .int .i64 (nT kI0 kL1 (tapeB tI0 tI1 kI0) tI0 (tapeM tI0 (tapeM tI0 tI1 kI0) kI0))] 40 := (Box.b x3 b10)
        clear x3; have x3 := x3_; clear x3_
        have yb_ : Box w10 (w6.heap.size) #[.slice qA0 qn0 qc0, .slice qA1 qn1 qc1] 38 := (Box.b yb b10)
        clear yb; have yb := yb_; clear yb_
        have x4_ : Box w10 (w6.heap.size + 1) #[.int .i64 tI0, .int .i64 (nT kI0 kL1 (tapeB tI0 (tapeM tI0 tI1 kI0) kI0) tI0 (nT kI0 kL1 (tapeB tI0 tI1 kI0) tI0 (tapeM tI0 (tapeM tI0 tI1 kI0) kI0)))] 40 := (Box.b x4 b10)
        clear x4; have x4 := x4_; clear x4_
        (try clear b10)
        (try clear B9)
        (try simp only [Act.put, layA, layB, layC])
        have hS : ∀ W, Later w10 W → (Below w.heap.size w W ∧ Below w10.heap.size w10 W ∧ W.cell? ⟨w.heap.size, 0, none⟩ = some (.int .i64 kI0) ∧ W.cell? ⟨w.heap.size, 1, none⟩ = some ((.slice kA1 kn1 kc1)) ∧ W.cell? ⟨w6.heap.size + 1, 0, none⟩ = some (.int .i64 tI0) ∧ W.cell? ⟨w6.heap.size + 1, 1, none⟩ = some (.int .i64 (nT kI0 kL1 (tapeB tI0 (tapeM tI0 tI1 kI0) kI0) tI0 (nT kI0 kL1 (tapeB tI0 tI1 kI0) tI0 (tapeM tI0 (tapeM tI0 tI1 kI0) kI0))))) := fun W hW => ⟨Below.trans (b := _) (by repeat (with_reducible (first | assumption | exact Below.refl _ _ | refine Below.alloc ?_ (by first | omega | (simp; done) | (simp; omega)) _ | refine Below.setCell ?_ (by first | omega | (simp; done) | (simp; omega)) _ | refine Below.drew ?_ | refine below_drewN ?_ _))) (Below.mono hW (by first | omega | (simp [size_drew]; done) | (simp [size_drew]; omega))), Below.trans (b := _) (by repeat (with_reducible (first | assumption | exact Below.refl _ _ | refine Below.alloc ?_ (by first | omega | (simp; done) | (simp; omega)) _ | refine Below.setCell ?_ (by first | omega | (simp; done) | (simp; omega)) _ | refine Below.drew ?_ | refine below_drewN ?_ _))) (Below.mono hW (by first | omega | (simp [size_drew]; done) | (simp [size_drew]; omega))), (Box.below xk hW (by first | omega | (simp [size_drew]; done) | (simp [size_drew]; omega))).two.1, (Box.below xk hW (by first | omega | (simp [size_drew]; done) | (simp [size_drew]; omega))).two.2.1, (Box.below x4 hW (by first | omega | (simp [size_drew]; done) | (simp [size_drew]; omega))).two.1, (Box.below x4 hW (by first | omega | (simp [size_drew]; done) | (simp [size_drew]; omega))).two.2.1⟩
        (refine tkM 8 hG hS ?_; (try simp only [Act.put, layA, layB, layC]))
        (refine tkM 9 hG hS ?_; (try simp only [Act.put, layA, layB, layC]))
        (refine tkY 10 hG ?_; (try simp only [Act.put, layA, layB, layC]))
        refine storeM (z := 13) (by simp only [List.getElem?_toArray, List.getElem?_cons_succ, List.getElem?_cons_zero] <;> rfl) (by kernel_rfl) (by rfl) (by rfl) ?_
        intro w11 b11
        have B11 : Below w.heap.size w w11 := (hS w11 b11).1
        have z11 := Below.size b11
        (try simp only [World.size_alloc, World.size_setCell, size_drew] at z11)
        have rp_ := (rp.below b11)
        clear rp; have rp := rp_; clear rp_
        have rq_ := (rq.below b11)
        clear rq; have rq := rq_; clear rq_
        have ru_ := (ru.below b11)
        clear ru; have ru := ru_; clear ru_
        have xk_ : Box w11 (w.heap.size) #[.int .i64 kI0, (.slice kA1 kn1 kc1)] 33 := (Box.b xk b11)
        clear xk; have xk := xk_; clear xk_
        have xt_ : Box w11 (w.heap.size + 1) #[.int .i64 tI0, .int .i64 tI1] 40 := (Box.b xt b11)
        clear xt; have xt := xt_; clear xt_
        have xr_ : Box w11 (w.heap.size + 1 + 1) #[.slice none 0 0, .slice none 0 0, .slice none 0 0, .slice none 0 0, .slice none 0 0, .slice none 0 0] 68 := (Box.b xr b11)
        clear xr; have xr := xr_; clear xr_
        have xq_ : Box w11 (w.heap.size + 1 + 1 + 1) #[.int .i64 0, .int .i64 0] 40 := (Box.b xq b11)
        clear xq; have xq := xq_; clear xq_
        have x1_ : Box w11 (w3.heap.size) #[.int .i64 tI0, .int .i64 (tapeM tI0 tI1 kI0)] 40 := (Box.b x1 b11)
        clear x1; have x1 := x1_; clear x1_
        have x2_ : Box w11 (w4.heap.size) #[.int .i64 tI0, .int .i64 (tapeM tI0 (tapeM tI0 tI1 kI0) kI0)] 40 := (Box.b x2 b11)
        clear x2; have x2 := x2_; clear x2_
        have ya_ : Box w11 (w5.heap.size) #[.slice pA0 pn0 pc0, .slice pA1 pn1 pc1] 38 := (Box.b ya b11)
        clear ya; have ya := ya_; clear ya_
        have x3_ : Box w11 (w5.heap.size + 1) #[.int .i64 tI0, .int .i64 (nT kI0 kL1 (tapeB tI0 tI1 kI0) tI0 (tapeM tI0 (tapeM tI0 tI1 kI0) kI0))] 40 := (Box.b x3 b11)
        clear x3; have x3 := x3_; clear x3_
        have yb_ : Box w11 (w6.heap.size) #[.slice qA0 qn0 qc0, .slice qA1 qn1 qc1] 38 := (Box.b yb b11)
        clear yb; have yb := yb_; clear yb_
        have x4_ : Box w11 (w6.heap.size + 1) #[.int .i64 tI0, .int .i64 (nT kI0 kL1 (tapeB tI0 (tapeM tI0 tI1 kI0) kI0) tI0 (nT kI0 kL1 (tapeB tI0 tI1 kI0) tI0 (tapeM tI0 (tapeM tI0 tI1 kI0) kI0)))] 40 := (Box.b x4 b11)
        clear x4; have x4 := x4_; clear x4_
        (try clear b11)
        (try clear B10)
        clear hS hG
        refine Zc.cons fun gx5 x5 nx5 => ?_
        have nx5_0 := nx5 (w9.heap.size, w10.heap.size) (by simp)
        dsimp only at nx5_0 x5
        have nx5_1 := nx5 (w8.heap.size, w8.heap.size) (by simp)
        dsimp only at nx5_1 x5
        have nx5_2 := nx5 (0, w7.heap.size) (by simp)
        dsimp only at nx5_2 x5
        clear nx5
        refine Zc.cons fun gyc yc nyc => ?_
        have nyc_0 := nyc (gx5, gx5 + 1) (by simp)
        dsimp only at nyc_0 yc
        have nyc_1 := nyc (w9.heap.size, w10.heap.size) (by simp)
        dsimp only at nyc_1 yc
        have nyc_2 := nyc (w8.heap.size, w8.heap.size) (by simp)
        dsimp only at nyc_2 yc
        have nyc_3 := nyc (0, w7.heap.size) (by simp)
        dsimp only at nyc_3 yc
        clear nyc
        refine Zc.nil ?_
        (try unfold ptr)
        (try simp only [Act.put, layA, layB, layC])
        have lyc := yc.lt
        have lx5 := x5.lt
        obtain ⟨cyc_0, cyc_1, fyc_0, fyc_1⟩ := yc.two
        obtain ⟨cx5_0, cx5_1, fx5_0, fx5_1⟩ := x5.two
        have ne_x5_yc : gx5 ≠ gyc := by omega
        have ne_yc_x5 : gyc ≠ gx5 := by omega
        refine ⟨_, by go_simp; (first | done | with_reducible rfl | exact ⟨rfl, rfl⟩), ?_⟩
        (try simp only [Act.put, layA, layB, layC])
        refine skipAny (i := 14) (by simp only [List.getElem?_toArray, List.getElem?_cons_succ, List.getElem?_cons_zero] <;> rfl) (by kernel_rfl) (by rfl) (by go_simp; (first | done | with_reducible rfl | exact ⟨rfl, rfl⟩)) ?_
        (try simp only [Act.put, layA, layB, layC])
        refine wpAny_done (by kernel_rfl) ?_ _
        clear cyc_0 cyc_1 fyc_0 fyc_1 cx5_0 cx5_1 fx5_0 fx5_1 ne_x5_yc ne_yc_x5
        generalize hw12 : World.setCell _ _ _ = w12
        have z12 : w11.heap.size ≤ w12.heap.size := by rw [← hw12]; simp
        have B12 : Below w.heap.size w w12 := by rw [← hw12]; repeat (with_reducible (first | assumption | exact Below.refl _ _ | refine Below.alloc ?_ (by first | omega | (simp; done) | (simp; omega)) _ | refine Below.setCell ?_ (by first | omega | (simp; done) | (simp; omega)) _ | refine Below.drew ?_ | refine below_drewN ?_ _))
        have hK : ∀ k, k ≠ gyc → k ≠ gx5 → k < w11.heap.size → w12.heap[k]? = w11.heap[k]? := by
          intro k h0 h1 _; rw [← hw12]
          repeat (first | rfl | refine (Below.heap_setCell _ _ _ _ (by first | exact h0 | exact h1)).trans ?_)
        have rp_ := rp.keepBlock z12 (fun k h1 h2 => hK k (by omega) (by omega) (by have := rp.2.1; omega))
        clear rp; have rp := rp_; clear rp_
        have rq_ := rq.keepBlock z12 (fun k h1 h2 => hK k (by omega) (by omega) (by have := rq.2.1; omega))
        clear rq; have rq := rq_; clear rq_
        have ru_ := ru.keepBlock z12 (fun k h1 h2 => hK k (by omega) (by omega) (by have := ru.2.1; omega))
        clear ru; have ru := ru_; clear ru_
        have xk_ : Box w12 (w.heap.size) #[.int .i64 kI0, (.slice kA1 kn1 kc1)] 33 := (by rw [← hw12]; exact ((((xk.far (by omega)).far (by omega)).far (by omega)).far (by omega)))
        clear xk; have xk := xk_; clear xk_
        have xt_ : Box w12 (w.heap.size + 1) #[.int .i64 tI0, .int .i64 tI1] 40 := (by rw [← hw12]; exact ((((xt.far (by omega)).far (by omega)).far (by omega)).far (by omega)))
        clear xt; have xt := xt_; clear xt_
        have xr_ : Box w12 (w.heap.size + 1 + 1) #[.slice none 0 0, .slice none 0 0, .slice none 0 0, .slice none 0 0, .slice none 0 0, .slice none 0 0] 68 := (by rw [← hw12]; exact ((((xr.far (by omega)).far (by omega)).far (by omega)).far (by omega)))
        clear xr; have xr := xr_; clear xr_
        have xq_ : Box w12 (w.heap.size + 1 + 1 + 1) #[.int .i64 0, .int .i64 0] 40 := (by rw [← hw12]; exact ((((xq.far (by omega)).far (by omega)).far (by omega)).far (by omega)))
        clear xq; have xq := xq_; clear xq_
        have x1_ : Box w12 (w3.heap.size) #[.int .i64 tI0, .int .i64 (tapeM tI0 tI1 kI0)] 40 := (by rw [← hw12]; exact ((((x1.far (by omega)).far (by omega)).far (by omega)).far (by omega)))
        clear x1; have x1 := x1_; clear x1_
        have x2_ : Box w12 (w4.heap.size) #[.int .i64 tI0, .int .i64 (tapeM tI0 (tapeM tI0 tI1 kI0) kI0)] 40 := (by rw [← hw12]; exact ((((x2.far (by omega)).far (by omega)).far (by omega)).far (by omega)))
        clear x2; have x2 := x2_; clear x2_
        have ya_ : Box w12 (w5.heap.size) #[.slice pA0 pn0 pc0, .slice pA1 pn1 pc1] 38 := (by rw [← hw12]; exact ((((ya.far (by omega)).far (by omega)).far (by omega)).far (by omega)))
        clear ya; have ya := ya_; clear ya_
        have x3_ : Box w12 (w5.heap.size + 1) #[.int .i64 tI0, .int .i64 (nT kI0 kL1 (tapeB tI0 tI1 kI0) tI0 (tapeM tI0 (tapeM tI0 tI1 kI0) kI0))] 40 := (by rw [← hw12]; exact ((((x3.far (by omega)).far (by omega)).far (by omega)).far (by omega)))
        clear x3; have x3 := x3_; clear x3_
        have yb_ : Box w12 (w6.heap.size) #[.slice qA0 qn0 qc0, .slice qA1 qn1 qc1] 38 := (by rw [← hw12]; exact ((((yb.far (by omega)).far (by omega)).far (by omega)).far (by omega)))
        clear yb; have yb := yb_; clear yb_
        have x4_ : Box w12 (w6.heap.size + 1) #[.int .i64 tI0, .int .i64 (nT kI0 kL1 (tapeB tI0 (tapeM tI0 tI1 kI0) kI0) tI0 (nT kI0 kL1 (tapeB tI0 tI1 kI0) tI0 (tapeM tI0 (tapeM tI0 tI1 kI0) kI0)))] 40 := (by rw [← hw12]; exact ((((x4.far (by omega)).far (by omega)).far (by omega)).far (by omega)))
        clear x4; have x4 := x4_; clear x4_
        have x5_ : Box w12 (gx5) #[.int .i64 tI0, .int .i64 (nT kI0 kL1 (fmul kI0 (tapeB tI0 tI1 kI0) (tapeB tI0 (tapeM tI0 tI1 kI0) kI0)) tI0 (nT kI0 kL1 (tapeB tI0 (tapeM tI0 tI1 kI0) kI0) tI0 (nT kI0 kL1 (tapeB tI0 tI1 kI0) tI0 (tapeM tI0 (tapeM tI0 tI1 kI0) kI0))))] 40 := (by rw [← hw12]; exact ((((x5.far (by omega)).far (by omega)).setAt (i := 0) (v := .int .i64 tI0) (ds := #[.int .i64 tI0, .int .i64 0]) (by simp)).setAt (i := 1) (v := .int .i64 (nT kI0 kL1 (fmul kI0 (tapeB tI0 tI1 kI0) (tapeB tI0 (tapeM tI0 tI1 kI0) kI0)) tI0 (nT kI0 kL1 (tapeB tI0 (tapeM tI0 tI1 kI0) kI0) tI0 (nT kI0 kL1 (tapeB tI0 tI1 kI0) tI0 (tapeM tI0 (tapeM tI0 tI1 kI0) kI0))))) (ds := #[.int .i64 tI0, .int .i64 (nT kI0 kL1 (fmul kI0 (tapeB tI0 tI1 kI0) (tapeB tI0 (tapeM tI0 tI1 kI0) kI0)) tI0 (nT kI0 kL1 (tapeB tI0 (tapeM tI0 tI1 kI0) kI0) tI0 (nT kI0 kL1 (tapeB tI0 tI1 kI0) tI0 (tapeM tI0 (tapeM tI0 tI1 kI0) kI0))))]) (by simp)))
        clear x5; have x5 := x5_; clear x5_
        have yc_ : Box w12 (gyc) #[.slice uA0 un0 uc0, .slice uA1 un1 uc1] 38 := (by rw [← hw12]; exact ((((yc.setAt (i := 0) (v := .slice uA0 un0 uc0) (ds := #[.slice uA0 un0 uc0, .slice none 0 0]) (by simp)).setAt (i := 1) (v := .slice uA1 un1 uc1) (ds := #[.slice uA0 un0 uc0, .slice uA1 un1 uc1]) (by simp)).far (by omega)).far (by omega)))
        clear yc; have yc := yc_; clear yc_
        (try clear b12)
        (try clear B11)
        clear hw12 hK
        have hbgx5 : w7.heap.size ≤ gx5 := by omega
        have hbgyc : w7.heap.size ≤ gyc := by omega
        clear nx5_0 nx5_1 nx5_2 nyc_0 nyc_1 nyc_2 nyc_3
        clear xk xt x1 x2 x3 x4
        generalize hD0 : nS kI0 kL1 (tapeB tI0 tI1 kI0) tI0 (tapeM tI0 (tapeM tI0 tI1 kI0) kI0) = D0 at rp
        generalize hD1 : nM kI0 kL1 (tapeB tI0 tI1 kI0) tI0 (tapeM tI0 (tapeM tI0 tI1 kI0) kI0) = D1 at rp
        generalize hD2 : nS kI0 kL1 (tapeB tI0 (tapeM tI0 tI1 kI0) kI0) tI0 (nT kI0 kL1 (tapeB tI0 tI1 kI0) tI0 (tapeM tI0 (tapeM tI0 tI1 kI0) kI0)) = D2 at rq
        generalize hD3 : nM kI0 kL1 (tapeB tI0 (tapeM tI0 tI1 kI0) kI0) tI0 (nT kI0 kL1 (tapeB tI0 tI1 kI0) tI0 (tapeM tI0 (tapeM tI0 tI1 kI0) kI0)) = D3 at rq
        generalize hD4 : nS kI0 kL1 (fmul kI0 (tapeB tI0 tI1 kI0) (tapeB tI0 (tapeM tI0 tI1 kI0) kI0)) tI0 (nT kI0 kL1 (tapeB tI0 (tapeM tI0 tI1 kI0) kI0) tI0 (nT kI0 kL1 (tapeB tI0 tI1 kI0) tI0 (tapeM tI0 (tapeM tI0 tI1 kI0) kI0))) = D4 at ru
        generalize hD5 : nM kI0 kL1 (fmul kI0 (tapeB tI0 tI1 kI0) (tapeB tI0 (tapeM tI0 tI1 kI0) kI0)) tI0 (nT kI0 kL1 (tapeB tI0 (tapeM tI0 tI1 kI0) kI0) tI0 (nT kI0 kL1 (tapeB tI0 tI1 kI0) tI0 (tapeM tI0 (tapeM tI0 tI1 kI0) kI0))) = D5 at ru
        generalize hT5 : nT kI0 kL1 (fmul kI0 (tapeB tI0 tI1 kI0) (tapeB tI0 (tapeM tI0 tI1 kI0) kI0)) tI0 (nT kI0 kL1 (tapeB tI0 (tapeM tI0 tI1 kI0) kI0) tI0 (nT kI0 kL1 (tapeB tI0 tI1 kI0) tI0 (tapeM tI0 (tapeM tI0 tI1 kI0) kI0))) = T5 at x5 ⊢
        (try clear kH kL1i kL1l kL1m kL1n k1 k2 k3 q3)
        obtain ⟨cya_0, cya_1, fya_0, fya_1⟩ := ya.two
        have l_ya_0 : w5.heap.size < w12.heap.size := by omega
        obtain ⟨cyb_0, cyb_1, fyb_0, fyb_1⟩ := yb.two
        have l_yb_0 : w6.heap.size < w12.heap.size := by omega
        obtain ⟨cyc_0, cyc_1, fyc_0, fyc_1⟩ := yc.two
        have l_yc_0 : gyc < w12.heap.size := by omega
        obtain ⟨cx5_0, cx5_1, fx5_0, fx5_1⟩ := x5.two
        have l_x5_0 : gx5 < w12.heap.size := by omega
        go_wp2_with fail
        clear cya_0 cya_1 fya_0 fya_1 l_ya_0 cyb_0 cyb_1 fyb_0 fyb_1 l_yb_0 cyc_0 cyc_1 fyc_0 fyc_1 l_yc_0 cx5_0 cx5_1 fx5_0 fx5_1 l_x5_0
        refine wp_region_held_drew (S := fun W => W.cell? ⟨w5.heap.size, 0, none⟩ = some (.slice pA0 pn0 pc0) ∧ W.cell? ⟨w5.heap.size, 1, none⟩ = some (.slice pA1 pn1 pc1) ∧ W.cell? ⟨w6.heap.size, 0, none⟩ = some (.slice qA0 qn0 qc0) ∧ W.cell? ⟨w6.heap.size, 1, none⟩ = some (.slice qA1 qn1 qc1) ∧ W.cell? ⟨gyc, 0, none⟩ = some (.slice uA0 un0 uc0) ∧ W.cell? ⟨gyc, 1, none⟩ = some (.slice uA1 un1 uc1) ∧ W.cell? ⟨gx5, 0, none⟩ = some (.int .i64 tI0) ∧ W.cell? ⟨gx5, 1, none⟩ = some (.int .i64 (T5))) (by kernel_rfl) ⟨ya.drew.two.1, ya.drew.two.2.1, yb.drew.two.1, yb.drew.two.2.1, yc.drew.two.1, yc.drew.two.2.1, x5.drew.two.1, x5.drew.two.2.1⟩ (fun hS => ?_)
        (refine tk 0 hS ?_; (try simp only [Act.put, layA, layB, layC]))
        (refine tk 1 hS ?_; (try simp only [Act.put, layA, layB, layC]))
        (refine tk 2 hS ?_; (try simp only [Act.put, layA, layB, layC]))
        (refine tk 3 hS ?_; (try simp only [Act.put, layA, layB, layC]))
        (refine tk 4 hS ?_; (try simp only [Act.put, layA, layB, layC]))
        refine on 5 ?_
        obtain ⟨cxr_0, cxr_1, cxr_2, cxr_3, cxr_4, cxr_5, fxr_0, fxr_1, fxr_2, fxr_3, fxr_4, fxr_5⟩ := xr.six
        refine skipH (by go_simp; (first | done | with_reducible rfl | exact ⟨rfl, rfl⟩)) ?_ (fun hS_ => ?_)
        · generalize hwz : World.setCell _ _ _ = wz
          have hK : ∀ k, k ≠ w.heap.size + 1 + 1 → wz.heap[k]? = w12.heap[k]? := by
            intro k h0; rw [← hwz]
            refine (Below.heap_setCell _ _ _ _ (by exact h0)).trans ?_
            refine (Below.heap_setCell _ _ _ _ (by exact h0)).trans ?_
            refine (Below.heap_setCell _ _ _ _ (by exact h0)).trans ?_
            refine (Below.heap_setCell _ _ _ _ (by exact h0)).trans ?_
            refine (Below.heap_setCell _ _ _ _ (by exact h0)).trans ?_
            refine (Below.heap_setCell _ _ _ _ (by exact h0)).trans ?_
            rfl
          have z_ya : Box wz (w5.heap.size) #[.slice pA0 pn0 pc0, .slice pA1 pn1 pc1] 38 := (hK _ (by omega)).trans ya
          have z_yb : Box wz (w6.heap.size) #[.slice qA0 qn0 qc0, .slice qA1 qn1 qc1] 38 := (hK _ (by omega)).trans yb
          have z_yc : Box wz (gyc) #[.slice uA0 un0 uc0, .slice uA1 un1 uc1] 38 := (hK _ (by omega)).trans yc
          have z_x5 : Box wz (gx5) #[.int .i64 tI0, .int .i64 (T5)] 40 := (hK _ (by omega)).trans x5
          exact ⟨z_ya.two.1, z_ya.two.2.1, z_yb.two.1, z_yb.two.2.1, z_yc.two.1, z_yc.two.2.1, z_x5.two.1, z_x5.two.2.1⟩
        clear cxr_0 cxr_1 cxr_2 cxr_3 cxr_4 cxr_5 fxr_0 fxr_1 fxr_2 fxr_3 fxr_4 fxr_5
        clear hS
        have hS := hS_
        clear hS_
        revert hS
        generalize hw13 : World.setCell _ _ _ = w13
        have z13 : w12.heap.size ≤ w13.heap.size := by rw [← hw13]; simp [size_drew]
        have B13 : Below w.heap.size w w13 := by rw [← hw13]; repeat (with_reducible (first | assumption | exact Below.refl _ _ | refine Below.alloc ?_ (by first | omega | (simp; done) | (simp; omega)) _ | refine Below.setCell ?_ (by first | omega | (simp; done) | (simp; omega)) _ | refine Below.drew ?_ | refine below_drewN ?_ _))
        have hK : ∀ k, k ≠ w.heap.size + 1 + 1 → k < w12.heap.size → w13.heap[k]? = w12.heap[k]? := by
          intro k h0 hk; rw [← hw13]
          refine (Below.heap_setCell _ _ _ _ (by exact h0)).trans ?_
          refine (Below.heap_setCell _ _ _ _ (by exact h0)).trans ?_
          refine (Below.heap_setCell _ _ _ _ (by exact h0)).trans ?_
          refine (Below.heap_setCell _ _ _ _ (by exact h0)).trans ?_
          refine (Below.heap_setCell _ _ _ _ (by exact h0)).trans ?_
          refine (Below.heap_setCell _ _ _ _ (by exact h0)).trans ?_
          rfl
        have rp_ := rp.keepBlock (w' := w13) (by omega) (fun k h1 h2 => hK k (by omega) (by have := rp.2.1; omega))
        clear rp; have rp := rp_; clear rp_
        have rq_ := rq.keepBlock (w' := w13) (by omega) (fun k h1 h2 => hK k (by omega) (by have := rq.2.1; omega))
        clear rq; have rq := rq_; clear rq_
        have ru_ := ru.keepBlock (w' := w13) (by omega) (fun k h1 h2 => hK k (by omega) (by have := ru.2.1; omega))
        clear ru; have ru := ru_; clear ru_
        have xq_ : Box w13 (w.heap.size + 1 + 1 + 1) #[.int .i64 0, .int .i64 0] 40 := (hK _ (by omega) (by have := xq.lt; omega)).trans xq
        clear xq; have xq := xq_; clear xq_
        have ya_ : Box w13 (w5.heap.size) #[.slice pA0 pn0 pc0, .slice pA1 pn1 pc1] 38 := (hK _ (by omega) (by have := ya.lt; omega)).trans ya
        clear ya; have ya := ya_; clear ya_
        have yb_ : Box w13 (w6.heap.size) #[.slice qA0 qn0 qc0, .slice qA1 qn1 qc1] 38 := (hK _ (by omega) (by have := yb.lt; omega)).trans yb
        clear yb; have yb := yb_; clear yb_
        have x5_ : Box w13 (gx5) #[.int .i64 tI0, .int .i64 (T5)] 40 := (hK _ (by omega) (by have := x5.lt; omega)).trans x5
        clear x5; have x5 := x5_; clear x5_
        have yc_ : Box w13 (gyc) #[.slice uA0 un0 uc0, .slice uA1 un1 uc1] 38 := (hK _ (by omega) (by have := yc.lt; omega)).trans yc
        clear yc; have yc := yc_; clear yc_
        have xr_ : Box w13 (w.heap.size + 1 + 1) #[.slice pA0 pn0 pc0, .slice pA1 pn1 pc1, .slice qA0 qn0 qc0, .slice qA1 qn1 qc1, .slice uA0 un0 uc0, .slice uA1 un1 uc1] 68 := (by rw [← hw13]; exact ((((((xr.drew.setAt (i := 0) (v := .slice pA0 pn0 pc0) (ds := #[.slice pA0 pn0 pc0, .slice none 0 0, .slice none 0 0, .slice none 0 0, .slice none 0 0, .slice none 0 0]) (by simp)).setAt (i := 1) (v := .slice pA1 pn1 pc1) (ds := #[.slice pA0 pn0 pc0, .slice pA1 pn1 pc1, .slice none 0 0, .slice none 0 0, .slice none 0 0, .slice none 0 0]) (by simp)).setAt (i := 2) (v := .slice qA0 qn0 qc0) (ds := #[.slice pA0 pn0 pc0, .slice pA1 pn1 pc1, .slice qA0 qn0 qc0, .slice none 0 0, .slice none 0 0, .slice none 0 0]) (by simp)).setAt (i := 3) (v := .slice qA1 qn1 qc1) (ds := #[.slice pA0 pn0 pc0, .slice pA1 pn1 pc1, .slice qA0 qn0 qc0, .slice qA1 qn1 qc1, .slice none 0 0, .slice none 0 0]) (by simp)).setAt (i := 4) (v := .slice uA0 un0 uc0) (ds := #[.slice pA0 pn0 pc0, .slice pA1 pn1 pc1, .slice qA0 qn0 qc0, .slice qA1 qn1 qc1, .slice uA0 un0 uc0, .slice none 0 0]) (by simp)).setAt (i := 5) (v := .slice uA1 un1 uc1) (ds := #[.slice pA0 pn0 pc0, .slice pA1 pn1 pc1, .slice qA0 qn0 qc0, .slice qA1 qn1 qc1, .slice uA0 un0 uc0, .slice uA1 un1 uc1]) (by simp)))
        clear xr; have xr := xr_; clear xr_
        (try clear b13)
        (try clear B12)
        clear hw13 hK
        intro hS
        (try simp only [Act.put, layA, layB, layC])
        refine on 6 ?_
        obtain ⟨cxq_0, cxq_1, fxq_0, fxq_1⟩ := xq.two
        refine skipH (by go_simp; (first | done | with_reducible rfl | exact ⟨rfl, rfl⟩)) ?_ (fun hS_ => ?_)
        · generalize hwz : World.setCell _ _ _ = wz
          have hK : ∀ k, k ≠ w.heap.size + 1 + 1 + 1 → wz.heap[k]? = w13.heap[k]? := by
            intro k h0; rw [← hwz]
            refine (Below.heap_setCell _ _ _ _ (by exact h0)).trans ?_
            refine (Below.heap_setCell _ _ _ _ (by exact h0)).trans ?_
            rfl
          have z_ya : Box wz (w5.heap.size) #[.slice pA0 pn0 pc0, .slice pA1 pn1 pc1] 38 := (hK _ (by omega)).trans ya
          have z_yb : Box wz (w6.heap.size) #[.slice qA0 qn0 qc0, .slice qA1 qn1 qc1] 38 := (hK _ (by omega)).trans yb
          have z_yc : Box wz (gyc) #[.slice uA0 un0 uc0, .slice uA1 un1 uc1] 38 := (hK _ (by omega)).trans yc
          have z_x5 : Box wz (gx5) #[.int .i64 tI0, .int .i64 (T5)] 40 := (hK _ (by omega)).trans x5
          exact ⟨z_ya.two.1, z_ya.two.2.1, z_yb.two.1, z_yb.two.2.1, z_yc.two.1, z_yc.two.2.1, z_x5.two.1, z_x5.two.2.1⟩
        clear cxq_0 cxq_1 fxq_0 fxq_1
        clear hS
        have hS := hS_
        clear hS_
        (try simp only [Act.put, layA, layB, layC])
        clear hS
        refine wpAnyH_done (by kernel_rfl) ?_ _
        obtain ⟨cxr_0, cxr_1, cxr_2, cxr_3, cxr_4, cxr_5, fxr_0, fxr_1, fxr_2, fxr_3, fxr_4, fxr_5⟩ := xr.six
        have l_xr_0 : w.heap.size + 1 + 1 < w13.heap.size := by omega
        obtain ⟨cxq_0, cxq_1, fxq_0, fxq_1⟩ := xq.two
        have l_xq_0 : w.heap.size + 1 + 1 + 1 < w13.heap.size := by omega
        go_wp2
        refine bodyPost_ret (v := .tuple #[.agg #[.slice pA0 pn0 pc0, .slice pA1 pn1 pc1, .slice qA0 qn0 qc0, .slice qA1 qn1 qc1, .slice uA0 un0 uc0, .slice uA1 un1 uc1], .agg #[.int .i64 tI0, .int .i64 T5]]) ?_ rfl ⟨_, _, _, _, _, _, _, _, _, _, _, _, _, _, _, _, _, _, by rw [mT_yes HO.out, hT5], ?_, ?_⟩
        · simp [results, Try.results72, go_sem, cxr_0, cxr_1, cxr_2, cxr_3, cxr_4, cxr_5, fxr_0, fxr_1, fxr_2, fxr_3, fxr_4, fxr_5, l_xr_0, cxq_0, cxq_1, fxq_0, fxq_1, l_xq_0]
        · have R := (OwnL.then (OwnL.then rp rq (by omega)) ru (by omega))
          simp only [List.cons_append, List.nil_append] at R
          rw [mAS_yes HO.out, mAM_yes HO.out, mBS_yes HO.out, mBM_yes HO.out, mCS_yes HO.out, mCM_yes HO.out, hD0, hD1, hD2, hD3, hD4, hD5]; exact OwnL.mono ((R.setBox (by omega)).setBox (by omega)) (by omega) (by first | omega | (simp [size_drew]; done) | (simp [size_drew]; omega)) (Nat.le_refl _)
        · repeat (with_reducible (first | assumption | exact Below.refl _ _ | refine Below.alloc ?_ (by first | omega | (simp; done) | (simp; omega)) _ | refine Below.setCell ?_ (by first | omega | (simp; done) | (simp; omega)) _ | refine Below.drew ?_ | refine below_drewN ?_ _))
set_option maxRecDepth 100000 in
set_option maxHeartbeats 2000000 in
theorem iTripleNew_L {kA1 : Option Addr} {kn1 kc1 : Nat} {kL1 : List Int} {w : World} (kI0 : Int) (kH : RdL w [((.slice kA1 kn1 kc1), .ints kL1)]) (kL1n : kL1.length ≤ 1048576) (tI0 : Int) (tI1 : Int) :
    Calls Try.prog 84 #[.agg #[.int .i64 kI0, (.slice kA1 kn1 kc1)], .agg #[.int .i64 tI0, .int .i64 tI1]] w fun e w' => ∃ rA0 rn0 rc0 rA1 rn1 rc1 rA2 rn2 rc2 rA3 rn3 rc3 rA4 rn4 rc4 rA5 rn5 rc5, e = .returned (.tuple #[.agg #[.slice rA0 rn0 rc0, .slice rA1 rn1 rc1, .slice rA2 rn2 rc2, .slice rA3 rn3 rc3, .slice rA4 rn4 rc4, .slice rA5 rn5 rc5], .agg #[.int .i64 tI0, .int .i64 (mT kI0 kL1 tI0 tI1)]]) ∧ OwnL w' w.heap.size w'.heap.size [(.slice rA0 rn0 rc0, .ints (mAS kI0 kL1 tI0 tI1)), (.slice rA1 rn1 rc1, .ints (mAM kI0 kL1 tI0 tI1)), (.slice rA2 rn2 rc2, .ints (mBS kI0 kL1 tI0 tI1)), (.slice rA3 rn3 rc3, .ints (mBM kI0 kL1 tI0 tI1)), (.slice rA4 rn4 rc4, .ints (mCS kI0 kL1 tI0 tI1)), (.slice rA5 rn5 rc5, .ints (mCM kI0 kL1 tI0 tI1))] ∧ Below w.heap.size w w' := by
  have kL1i : Ints w kA1 kn1 kL1 := Rd.toInts (kH ((.slice kA1 kn1 kc1), .ints kL1) (by simp))
  have kL1l := Lib.hid kL1i.len
  have kL1m : kn1 ≤ 1048576 := by rw [← kL1l.out]; exact kL1n
  cases k1 : keysOk kI0 kL1 with
  | false =>
    have HO : Hid (mOk kI0 kL1 tI0 tI1 = false) := by show _ = _; simp [mOk, k1]
    go_enter Try.func84, Try.ntmps84
    go_wp2_with fail
    refine (iKeysOk_L kI0 (RdL.b kH) kL1n).mono ?_
    rintro e w1 ⟨rfl, b1⟩
    have z1 := b1.size
    try simp only [World.size_alloc, World.size_setCell, size_drew] at z1
    have B1 : Below w.heap.size w w1 := Below.t b1
    have xk_ : Box w1 (w.heap.size) #[.int .i64 kI0, (.slice kA1 kn1 kc1)] 33 := ((((Box.new (g := w.heap.size) _ #[.int .i64 kI0, (.slice kA1 kn1 kc1)] 33 (by simp)).alloc _).alloc _).alloc _).below b1 (by first | omega | (simp [size_drew]; done) | (simp [size_drew]; omega))
    have xk := xk_; clear xk_
    have xt_ : Box w1 (w.heap.size + 1) #[.int .i64 tI0, .int .i64 tI1] 40 := (((Box.new (g := w.heap.size + 1) _ #[.int .i64 tI0, .int .i64 tI1] 40 (by simp)).alloc _).alloc _).below b1 (by first | omega | (simp [size_drew]; done) | (simp [size_drew]; omega))
    have xt := xt_; clear xt_
    have xr_ : Box w1 (w.heap.size + 1 + 1) #[.slice none 0 0, .slice none 0 0, .slice none 0 0, .slice none 0 0, .slice none 0 0, .slice none 0 0] 68 := ((Box.new (g := w.heap.size + 1 + 1) _ #[.slice none 0 0, .slice none 0 0, .slice none 0 0, .slice none 0 0, .slice none 0 0, .slice none 0 0] 68 (by simp)).alloc _).below b1 (by first | omega | (simp [size_drew]; done) | (simp [size_drew]; omega))
    have xr := xr_; clear xr_
    have xq_ : Box w1 (w.heap.size + 1 + 1 + 1) #[.int .i64 0, .int .i64 0] 40 := (Box.new (g := w.heap.size + 1 + 1 + 1) _ #[.int .i64 0, .int .i64 0] 40 (by simp)).below b1 (by first | omega | (simp [size_drew]; done) | (simp [size_drew]; omega))
    have xq := xq_; clear xq_
    (try clear b1)
    obtain ⟨cxt_0, cxt_1, fxt_0, fxt_1⟩ := xt.two
    have l_xt_0 : w.heap.size + 1 < w1.heap.size := by omega
    go_wp2_with fail
    clear cxt_0 cxt_1 fxt_0 fxt_1 l_xt_0
    refine wp_region_held_drew (S := fun W => W.cell? ⟨w.heap.size + 1, 0, none⟩ = some (.int .i64 tI0) ∧ W.cell? ⟨w.heap.size + 1, 1, none⟩ = some (.int .i64 tI1)) (by kernel_rfl) ⟨xt.drew.two.1, xt.drew.two.2.1⟩ (fun hS => ?_)
    (refine tk 0 hS ?_; (try simp only [Act.put, layA, layB, layC]))
    (refine tk 1 hS ?_; (try simp only [Act.put, layA, layB, layC]))
    refine on 2 ?_
    obtain ⟨cxr_0, cxr_1, cxr_2, cxr_3, cxr_4, cxr_5, fxr_0, fxr_1, fxr_2, fxr_3, fxr_4, fxr_5⟩ := xr.six
    refine skipH (by go_simp; (first | done | with_reducible rfl | exact ⟨rfl, rfl⟩)) ?_ (fun hS_ => ?_)
    · generalize hwz : World.setCell _ _ _ = wz
      have hK : ∀ k, k ≠ w.heap.size + 1 + 1 → wz.heap[k]? = w1.heap[k]? := by
        intro k h0; rw [← hwz]
        refine (Below.heap_setCell _ _ _ _ (by exact h0)).trans ?_
        refine (Below.heap_setCell _ _ _ _ (by exact h0)).trans ?_
        refine (Below.heap_setCell _ _ _ _ (by exact h0)).trans ?_
        refine (Below.heap_setCell _ _ _ _ (by exact h0)).trans ?_
        refine (Below.heap_setCell _ _ _ _ (by exact h0)).trans ?_
        refine (Below.heap_setCell _ _ _ _ (by exact h0)).trans ?_
        rfl
      have z_xt : Box wz (w.heap.size + 1) #[.int .i64 tI0, .int .i64 tI1] 40 := (hK _ (by omega)).trans xt
      exact ⟨z_xt.two.1, z_xt.two.2.1⟩
    clear cxr_0 cxr_1 cxr_2 cxr_3 cxr_4 cxr_5 fxr_0 fxr_1 fxr_2 fxr_3 fxr_4 fxr_5
    clear hS
    have hS := hS_
    clear hS_
    revert hS
    generalize hw2 : World.setCell _ _ _ = w2
    have z2 : w1.heap.size ≤ w2.heap.size := by rw [← hw2]; simp [size_drew]
    have B2 : Below w.heap.size w w2 := by rw [← hw2]; repeat (with_reducible (first | assumption | exact Below.refl _ _ | refine Below.alloc ?_ (by first | omega | (simp; done) | (simp; omega)) _ | refine Below.setCell ?_ (by first | omega | (simp; done) | (simp; omega)) _ | refine Below.drew ?_ | refine below_drewN ?_ _))
    have hK : ∀ k, k ≠ w.heap.size + 1 + 1 → k < w1.heap.size → w2.heap[k]? = w1.heap[k]? := by
      intro k h0 hk; rw [← hw2]
      refine (Below.heap_setCell _ _ _ _ (by exact h0)).trans ?_
      refine (Below.heap_setCell _ _ _ _ (by exact h0)).trans ?_
      refine (Below.heap_setCell _ _ _ _ (by exact h0)).trans ?_
      refine (Below.heap_setCell _ _ _ _ (by exact h0)).trans ?_
      refine (Below.heap_setCell _ _ _ _ (by exact h0)).trans ?_
      refine (Below.heap_setCell _ _ _ _ (by exact h0)).trans ?_
      rfl
    have xk_ : Box w2 (w.heap.size) #[.int .i64 kI0, (.slice kA1 kn1 kc1)] 33 := (hK _ (by omega) (by have := xk.lt; omega)).trans xk
    clear xk; have xk := xk_; clear xk_
    have xt_ : Box w2 (w.heap.size + 1) #[.int .i64 tI0, .int .i64 tI1] 40 := (hK _ (by omega) (by have := xt.lt; omega)).trans xt
    clear xt; have xt := xt_; clear xt_
    have xq_ : Box w2 (w.heap.size + 1 + 1 + 1) #[.int .i64 0, .int .i64 0] 40 := (hK _ (by omega) (by have := xq.lt; omega)).trans xq
    clear xq; have xq := xq_; clear xq_
    have xr_ : Box w2 (w.heap.size + 1 + 1) #[.slice none 0 0, .slice none 0 0, .slice none 0 0, .slice none 0 0, .slice none 0 0, .slice none 0 0] 68 := (by rw [← hw2]; exact ((((((xr.drew.setAt (i := 0) (v := .slice none 0 0) (ds := #[.slice none 0 0, .slice none 0 0, .slice none 0 0, .slice none 0 0, .slice none 0 0, .slice none 0 0]) (by simp)).setAt (i := 1) (v := .slice none 0 0) (ds := #[.slice none 0 0, .slice none 0 0, .slice none 0 0, .slice none 0 0, .slice none 0 0, .slice none 0 0]) (by simp)).setAt (i := 2) (v := .slice none 0 0) (ds := #[.slice none 0 0, .slice none 0 0, .slice none 0 0, .slice none 0 0, .slice none 0 0, .slice none 0 0]) (by simp)).setAt (i := 3) (v := .slice none 0 0) (ds := #[.slice none 0 0, .slice none 0 0, .slice none 0 0, .slice none 0 0, .slice none 0 0, .slice none 0 0]) (by simp)).setAt (i := 4) (v := .slice none 0 0) (ds := #[.slice none 0 0, .slice none 0 0, .slice none 0 0, .slice none 0 0, .slice none 0 0, .slice none 0 0]) (by simp)).setAt (i := 5) (v := .slice none 0 0) (ds := #[.slice none 0 0, .slice none 0 0, .slice none 0 0, .slice none 0 0, .slice none 0 0, .slice none 0 0]) (by simp)))
    clear xr; have xr := xr_; clear xr_
    (try clear b2)
    (try clear B1)
    clear hw2 hK
    intro hS
    (try simp only [Act.put, layA, layB, layC])
    refine on 3 ?_
    obtain ⟨cxq_0, cxq_1, fxq_0, fxq_1⟩ := xq.two
    refine skipH (by go_simp; (first | done | with_reducible rfl | exact ⟨rfl, rfl⟩)) ?_ (fun hS_ => ?_)
    · generalize hwz : World.setCell _ _ _ = wz
      have hK : ∀ k, k ≠ w.heap.size + 1 + 1 + 1 → wz.heap[k]? = w2.heap[k]? := by
        intro k h0; rw [← hwz]
        refine (Below.heap_setCell _ _ _ _ (by exact h0)).trans ?_
        refine (Below.heap_setCell _ _ _ _ (by exact h0)).trans ?_
        rfl
      have z_xt : Box wz (w.heap.size + 1) #[.int .i64 tI0, .int .i64 tI1] 40 := (hK _ (by omega)).trans xt
      exact ⟨z_xt.two.1, z_xt.two.2.1⟩
    clear cxq_0 cxq_1 fxq_0 fxq_1
    clear hS
    have hS := hS_
    clear hS_
    (try simp only [Act.put, layA, layB, layC])
    clear hS
    refine wpAnyH_done (by kernel_rfl) ?_ _
    obtain ⟨cxr_0, cxr_1, cxr_2, cxr_3, cxr_4, cxr_5, fxr_0, fxr_1, fxr_2, fxr_3, fxr_4, fxr_5⟩ := xr.six
    have l_xr_0 : w.heap.size + 1 + 1 < w2.heap.size := by omega
    obtain ⟨cxq_0, cxq_1, fxq_0, fxq_1⟩ := xq.two
    have l_xq_0 : w.heap.size + 1 + 1 + 1 < w2.heap.size := by omega
    go_wp2
    refine bodyPost_ret (v := .tuple #[.agg #[.slice none 0 0, .slice none 0 0, .slice none 0 0, .slice none 0 0, .slice none 0 0, .slice none 0 0], .agg #[.int .i64 tI0, .int .i64 tI1]]) ?_ rfl ⟨none, 0, 0, none, 0, 0, none, 0, 0, none, 0, 0, none, 0, 0, none, 0, 0, by rw [mT_no HO.out], ?_, ?_⟩
    · simp [results, Try.results84, go_sem, cxr_0, cxr_1, cxr_2, cxr_3, cxr_4, cxr_5, fxr_0, fxr_1, fxr_2, fxr_3, fxr_4, fxr_5, l_xr_0, cxq_0, cxq_1, fxq_0, fxq_1, l_xq_0]
    · rw [mAS_no HO.out, mAM_no HO.out, mBS_no HO.out, mBM_no HO.out, mCS_no HO.out, mCM_no HO.out]; exact OwnL.nones _ (by simp) (by first | omega | (simp [size_drew]; done) | (simp [size_drew]; omega))
    · repeat (with_reducible (first | assumption | exact Below.refl _ _ | refine Below.alloc ?_ (by first | omega | (simp; done) | (simp; omega)) _ | refine Below.setCell ?_ (by first | omega | (simp; done) | (simp; omega)) _ | refine Below.drew ?_ | refine below_drewN ?_ _))
  | true =>
    cases k2 : tapeOk tI0 tI1 with
    | false =>
      have HO : Hid (mOk kI0 kL1 tI0 tI1 = false) := by show _ = _; simp [mOk, k1, k2]
      go_enter Try.func84, Try.ntmps84
      go_wp2_with fail
      refine (iKeysOk_L kI0 (RdL.b kH) kL1n).mono ?_
      rintro e w1 ⟨rfl, b1⟩
      have z1 := b1.size
      try simp only [World.size_alloc, World.size_setCell, size_drew] at z1
      have B1 : Below w.heap.size w w1 := Below.t b1
      have xk_ : Box w1 (w.heap.size) #[.int .i64 kI0, (.slice kA1 kn1 kc1)] 33 := ((((Box.new (g := w.heap.size) _ #[.int .i64 kI0, (.slice kA1 kn1 kc1)] 33 (by simp)).alloc _).alloc _).alloc _).below b1 (by first | omega | (simp [size_drew]; done) | (simp [size_drew]; omega))
      have xk := xk_; clear xk_
      have xt_ : Box w1 (w.heap.size + 1) #[.int .i64 tI0, .int .i64 tI1] 40 := (((Box.new (g := w.heap.size + 1) _ #[.int .i64 tI0, .int .i64 tI1] 40 (by simp)).alloc _).alloc _).below b1 (by first | omega | (simp [size_drew]; done) | (simp [size_drew]; omega))
      have xt := xt_; clear xt_
      have xr_ : Box w1 (w.heap.size + 1 + 1) #[.slice none 0 0, .slice none 0 0, .slice none 0 0, .slice none 0 0, .slice none 0 0, .slice none 0 0] 68 := ((Box.new (g := w.heap.size + 1 + 1) _ #[.slice none 0 0, .slice none 0 0, .slice none 0 0, .slice none 0 0, .slice none 0 0, .slice none 0 0] 68 (by simp)).alloc _).below b1 (by first | omega | (simp [size_drew]; done) | (simp [size_drew]; omega))
      have xr := xr_; clear xr_
      have xq_ : Box w1 (w.heap.size + 1 + 1 + 1) #[.int .i64 0, .int .i64 0] 40 := (Box.new (g := w.heap.size + 1 + 1 + 1) _ #[.int .i64 0, .int .i64 0] 40 (by simp)).below b1 (by first | omega | (simp [size_drew]; done) | (simp [size_drew]; omega))
      have xq := xq_; clear xq_
      (try clear b1)
      obtain ⟨cxt_0, cxt_1, fxt_0, fxt_1⟩ := xt.two
      have l_xt_0 : w.heap.size + 1 < w1.heap.size := by omega
      go_wp2_with fail
      refine (iTapeOk_any tI0 tI1 _).mono ?_
      rintro e w2 ⟨rfl, b2⟩
      clear cxt_0 cxt_1 fxt_0 fxt_1 l_xt_0
      have z2 := b2.size
      try simp only [World.size_alloc, World.size_setCell, size_drew] at z2
      have B2 : Below w.heap.size w w2 := Below.t b2
      have xk_ : Box w2 (w.heap.size) #[.int .i64 kI0, (.slice kA1 kn1 kc1)] 33 := xk.below b2 (by first | omega | (simp [size_drew]; done) | (simp [size_drew]; omega))
      clear xk; have xk := xk_; clear xk_
      have xt_ : Box w2 (w.heap.size + 1) #[.int .i64 tI0, .int .i64 tI1] 40 := xt.below b2 (by first | omega | (simp [size_drew]; done) | (simp [size_drew]; omega))
      clear xt; have xt := xt_; clear xt_
      have xr_ : Box w2 (w.heap.size + 1 + 1) #[.slice none 0 0, .slice none 0 0, .slice none 0 0, .slice none 0 0, .slice none 0 0, .slice none 0 0] 68 := xr.below b2 (by first | omega | (simp [size_drew]; done) | (simp [size_drew]; omega))
      clear xr; have xr := xr_; clear xr_
      have xq_ : Box w2 (w.heap.size + 1 + 1 + 1) #[.int .i64 0, .int .i64 0] 40 := xq.below b2 (by first | omega | (simp [size_drew]; done) | (simp [size_drew]; omega))
      clear xq; have xq := xq_; clear xq_
      (try clear b2)
      (try clear B1)
      obtain ⟨cxt_0, cxt_1, fxt_0, fxt_1⟩ := xt.two
      have l_xt_0 : w.heap.size + 1 < w2.heap.size := by omega
      go_wp2_with fail
      clear cxt_0 cxt_1 fxt_0 fxt_1 l_xt_0
      refine wp_region_held_drew (S := fun W => W.cell? ⟨w.heap.size + 1, 0, none⟩ = some (.int .i64 tI0) ∧ W.cell? ⟨w.heap.size + 1, 1, none⟩ = some (.int .i64 tI1)) (by kernel_rfl) ⟨xt.drew.two.1, xt.drew.two.2.1⟩ (fun hS => ?_)
      (refine tk 0 hS ?_; (try simp only [Act.put, layA, layB, layC]))
      (refine tk 1 hS ?_; (try simp only [Act.put, layA, layB, layC]))
      refine on 2 ?_
      obtain ⟨cxr_0, cxr_1, cxr_2, cxr_3, cxr_4, cxr_5, fxr_0, fxr_1, fxr_2, fxr_3, fxr_4, fxr_5⟩ := xr.six
      refine skipH (by go_simp; (first | done | with_reducible rfl | exact ⟨rfl, rfl⟩)) ?_ (fun hS_ => ?_)
      · generalize hwz : World.setCell _ _ _ = wz
        have hK : ∀ k, k ≠ w.heap.size + 1 + 1 → wz.heap[k]? = w2.heap[k]? := by
          intro k h0; rw [← hwz]
          refine (Below.heap_setCell _ _ _ _ (by exact h0)).trans ?_
          refine (Below.heap_setCell _ _ _ _ (by exact h0)).trans ?_
          refine (Below.heap_setCell _ _ _ _ (by exact h0)).trans ?_
          refine (Below.heap_setCell _ _ _ _ (by exact h0)).trans ?_
          refine (Below.heap_setCell _ _ _ _ (by exact h0)).trans ?_
          refine (Below.heap_setCell _ _ _ _ (by exact h0)).trans ?_
          rfl
        have z_xt : Box wz (w.heap.size + 1) #[.int .i64 tI0, .int .i64 tI1] 40 := (hK _ (by omega)).trans xt
        exact ⟨z_xt.two.1, z_xt.two.2.1⟩
      clear cxr_0 cxr_1 cxr_2 cxr_3 cxr_4 cxr_5 fxr_0 fxr_1 fxr_2 fxr_3 fxr_4 fxr_5
      clear hS
      have hS := hS_
      clear hS_
      revert hS
      generalize hw3 : World.setCell _ _ _ = w3
      have z3 : w2.heap.size ≤ w3.heap.size := by rw [← hw3]; simp [size_drew]
      have B3 : Below w.heap.size w w3 := by rw [← hw3]; repeat (with_reducible (first | assumption | exact Below.refl _ _ | refine Below.alloc ?_ (by first | omega | (simp; done) | (simp; omega)) _ | refine Below.setCell ?_ (by first | omega | (simp; done) | (simp; omega)) _ | refine Below.drew ?_ | refine below_drewN ?_ _))
      have hK : ∀ k, k ≠ w.heap.size + 1 + 1 → k < w2.heap.size → w3.heap[k]? = w2.heap[k]? := by
        intro k h0 hk; rw [← hw3]
        refine (Below.heap_setCell _ _ _ _ (by exact h0)).trans ?_
        refine (Below.heap_setCell _ _ _ _ (by exact h0)).trans ?_
        refine (Below.heap_setCell _ _ _ _ (by exact h0)).trans ?_
        refine (Below.heap_setCell _ _ _ _ (by exact h0)).trans ?_
        refine (Below.heap_setCell _ _ _ _ (by exact h0)).trans ?_
        refine (Below.heap_setCell _ _ _ _ (by exact h0)).trans ?_
        rfl
      have xk_ : Box w3 (w.heap.size) #[.int .i64 kI0, (.slice kA1 kn1 kc1)] 33 := (hK _ (by omega) (by have := xk.lt; omega)).trans xk
      clear xk; have xk := xk_; clear xk_
      have xt_ : Box w3 (w.heap.size + 1) #[.int .i64 tI0, .int .i64 tI1] 40 := (hK _ (by omega) (by have := xt.lt; omega)).trans xt
      clear xt; have xt := xt_; clear xt_
      have xq_ : Box w3 (w.heap.size + 1 + 1 + 1) #[.int .i64 0, .int .i64 0] 40 := (hK _ (by omega) (by have := xq.lt; omega)).trans xq
      clear xq; have xq := xq_; clear xq_
      have xr_ : Box w3 (w.heap.size + 1 + 1) #[.slice none 0 0, .slice none 0 0, .slice none 0 0, .slice none 0 0, .slice none 0 0, .slice none 0 0] 68 := (by rw [← hw3]; exact ((((((xr.drew.setAt (i := 0) (v := .slice none 0 0) (ds := #[.slice none 0 0, .slice none 0 0, .slice none 0 0, .slice none 0 0, .slice none 0 0, .slice none 0 0]) (by simp)).setAt (i := 1) (v := .slice none 0 0) (ds := #[.slice none 0 0, .slice none 0 0, .slice none 0 0, .slice none 0 0, .slice none 0 0, .slice none 0 0]) (by simp)).setAt (i := 2) (v := .slice none 0 0) (ds := #[.slice none 0 0, .slice none 0 0, .slice none 0 0, .slice none 0 0, .slice none 0 0, .slice none 0 0]) (by simp)).setAt (i := 3) (v := .slice none 0 0) (ds := #[.slice none 0 0, .slice none 0 0, .slice none 0 0, .slice none 0 0, .slice none 0 0, .slice none 0 0]) (by simp)).setAt (i := 4) (v := .slice none 0 0) (ds := #[.slice none 0 0, .slice none 0 0, .slice none 0 0, .slice none 0 0, .slice none 0 0, .slice none 0 0]) (by simp)).setAt (i := 5) (v := .slice none 0 0) (ds := #[.slice none 0 0, .slice none 0 0, .slice none 0 0, .slice none 0 0, .slice none 0 0, .slice none 0 0]) (by simp)))
      clear xr; have xr := xr_; clear xr_
      (try clear b3)
      (try clear B2)
      clear hw3 hK
      intro hS
      (try simp only [Act.put, layA, layB, layC])
      refine on 3 ?_
      obtain ⟨cxq_0, cxq_1, fxq_0, fxq_1⟩ := xq.two
      refine skipH (by go_simp; (first | done | with_reducible rfl | exact ⟨rfl, rfl⟩)) ?_ (fun hS_ => ?_)
      · generalize hwz : World.setCell _ _ _ = wz
        have hK : ∀ k, k ≠ w.heap.size + 1 + 1 + 1 → wz.heap[k]? = w3.heap[k]? := by
          intro k h0; rw [← hwz]
          refine (Below.heap_setCell _ _ _ _ (by exact h0)).trans ?_
          refine (Below.heap_setCell _ _ _ _ (by exact h0)).trans ?_
          rfl
        have z_xt : Box wz (w.heap.size + 1) #[.int .i64 tI0, .int .i64 tI1] 40 := (hK _ (by omega)).trans xt
        exact ⟨z_xt.two.1, z_xt.two.2.1⟩
      clear cxq_0 cxq_1 fxq_0 fxq_1
      clear hS
      have hS := hS_
      clear hS_
      (try simp only [Act.put, layA, layB, layC])
      clear hS
      refine wpAnyH_done (by kernel_rfl) ?_ _
      obtain ⟨cxr_0, cxr_1, cxr_2, cxr_3, cxr_4, cxr_5, fxr_0, fxr_1, fxr_2, fxr_3, fxr_4, fxr_5⟩ := xr.six
      have l_xr_0 : w.heap.size + 1 + 1 < w3.heap.size := by omega
      obtain ⟨cxq_0, cxq_1, fxq_0, fxq_1⟩ := xq.two
      have l_xq_0 : w.heap.size + 1 + 1 + 1 < w3.heap.size := by omega
      go_wp2
      refine bodyPost_ret (v := .tuple #[.agg #[.slice none 0 0, .slice none 0 0, .slice none 0 0, .slice none 0 0, .slice none 0 0, .slice none 0 0], .agg #[.int .i64 tI0, .int .i64 tI1]]) ?_ rfl ⟨none, 0, 0, none, 0, 0, none, 0, 0, none, 0, 0, none, 0, 0, none, 0, 0, by rw [mT_no HO.out], ?_, ?_⟩
      · simp [results, Try.results84, go_sem, cxr_0, cxr_1, cxr_2, cxr_3, cxr_4, cxr_5, fxr_0, fxr_1, fxr_2, fxr_3, fxr_4, fxr_5, l_xr_0, cxq_0, cxq_1, fxq_0, fxq_1, l_xq_0]
      · rw [mAS_no HO.out, mAM_no HO.out, mBS_no HO.out, mBM_no HO.out, mCS_no HO.out, mCM_no HO.out]; exact OwnL.nones _ (by simp) (by first | omega | (simp [size_drew]; done) | (simp [size_drew]; omega))
      · repeat (with_reducible (first | assumption | exact Below.refl _ _ | refine Below.alloc ?_ (by first | omega | (simp; done) | (simp; omega)) _ | refine Below.setCell ?_ (by first | omega | (simp; done) | (simp; omega)) _ | refine Below.drew ?_ | refine below_drewN ?_ _))
    | true =>
      cases k3 : decide ((800000 : Int) < tI1) with
      | true =>
        have q3 : decide (tI1 ≤ 800000) = false := by simp at k3 ⊢; omega
        have HO : Hid (mOk kI0 kL1 tI0 tI1 = false) := by show _ = _; simp [mOk, k1, k2, q3]
        go_enter Try.func84, Try.ntmps84
        go_wp2_with fail
        refine (iKeysOk_L kI0 (RdL.b kH) kL1n).mono ?_
        rintro e w1 ⟨rfl, b1⟩
        have z1 := b1.size
        try simp only [World.size_alloc, World.size_setCell, size_drew] at z1
        have B1 : Below w.heap.size w w1 := Below.t b1
        have xk_ : Box w1 (w.heap.size) #[.int .i64 kI0, (.slice kA1 kn1 kc1)] 33 := ((((Box.new (g := w.heap.size) _ #[.int .i64 kI0, (.slice kA1 kn1 kc1)] 33 (by simp)).alloc _).alloc _).alloc _).below b1 (by first | omega | (simp [size_drew]; done) | (simp [size_drew]; omega))
        have xk := xk_; clear xk_
        have xt_ : Box w1 (w.heap.size + 1) #[.int .i64 tI0, .int .i64 tI1] 40 := (((Box.new (g := w.heap.size + 1) _ #[.int .i64 tI0, .int .i64 tI1] 40 (by simp)).alloc _).alloc _).below b1 (by first | omega | (simp [size_drew]; done) | (simp [size_drew]; omega))
        have xt := xt_; clear xt_
        have xr_ : Box w1 (w.heap.size + 1 + 1) #[.slice none 0 0, .slice none 0 0, .slice none 0 0, .slice none 0 0, .slice none 0 0, .slice none 0 0] 68 := ((Box.new (g := w.heap.size + 1 + 1) _ #[.slice none 0 0, .slice none 0 0, .slice none 0 0, .slice none 0 0, .slice none 0 0, .slice none 0 0] 68 (by simp)).alloc _).below b1 (by first | omega | (simp [size_drew]; done) | (simp [size_drew]; omega))
        have xr := xr_; clear xr_
        have xq_ : Box w1 (w.heap.size + 1 + 1 + 1) #[.int .i64 0, .int .i64 0] 40 := (Box.new (g := w.heap.size + 1 + 1 + 1) _ #[.int .i64 0, .int .i64 0] 40 (by simp)).below b1 (by first | omega | (simp [size_drew]; done) | (simp [size_drew]; omega))
        have xq := xq_; clear xq_
        (try clear b1)
        obtain ⟨cxt_0, cxt_1, fxt_0, fxt_1⟩ := xt.two
        have l_xt_0 : w.heap.size + 1 < w1.heap.size := by omega
        go_wp2_with fail
        refine (iTapeOk_any tI0 tI1 _).mono ?_
        rintro e w2 ⟨rfl, b2⟩
        clear cxt_0 cxt_1 fxt_0 fxt_1 l_xt_0
        have z2 := b2.size
        try simp only [World.size_alloc, World.size_setCell, size_drew] at z2
        have B2 : Below w.heap.size w w2 := Below.t b2
        have xk_ : Box w2 (w.heap.size) #[.int .i64 kI0, (.slice kA1 kn1 kc1)] 33 := xk.below b2 (by first | omega | (simp [size_drew]; done) | (simp [size_drew]; omega))
        clear xk; have xk := xk_; clear xk_
        have xt_ : Box w2 (w.heap.size + 1) #[.int .i64 tI0, .int .i64 tI1] 40 := xt.below b2 (by first | omega | (simp [size_drew]; done) | (simp [size_drew]; omega))
        clear xt; have xt := xt_; clear xt_
        have xr_ : Box w2 (w.heap.size + 1 + 1) #[.slice none 0 0, .slice none 0 0, .slice none 0 0, .slice none 0 0, .slice none 0 0, .slice none 0 0] 68 := xr.below b2 (by first | omega | (simp [size_drew]; done) | (simp [size_drew]; omega))
        clear xr; have xr := xr_; clear xr_
        have xq_ : Box w2 (w.heap.size + 1 + 1 + 1) #[.int .i64 0, .int .i64 0] 40 := xq.below b2 (by first | omega | (simp [size_drew]; done) | (simp [size_drew]; omega))
        clear xq; have xq := xq_; clear xq_
        (try clear b2)
        (try clear B1)
        obtain ⟨cxt_0, cxt_1, fxt_0, fxt_1⟩ := xt.two
        have l_xt_0 : w.heap.size + 1 < w2.heap.size := by omega
        go_wp2_with fail
        clear cxt_0 cxt_1 fxt_0 fxt_1 l_xt_0
        refine wp_region_held_drew (S := fun W => W.cell? ⟨w.heap.size + 1, 0, none⟩ = some (.int .i64 tI0) ∧ W.cell? ⟨w.heap.size + 1, 1, none⟩ = some (.int .i64 tI1)) (by kernel_rfl) ⟨xt.drew.two.1, xt.drew.two.2.1⟩ (fun hS => ?_)
        (refine tk 0 hS ?_; (try simp only [Act.put, layA, layB, layC]))
        (refine tk 1 hS ?_; (try simp only [Act.put, layA, layB, layC]))
        refine on 2 ?_
        obtain ⟨cxr_0, cxr_1, cxr_2, cxr_3, cxr_4, cxr_5, fxr_0, fxr_1, fxr_2, fxr_3, fxr_4, fxr_5⟩ := xr.six
        refine skipH (by go_simp; (first | done | with_reducible rfl | exact ⟨rfl, rfl⟩)) ?_ (fun hS_ => ?_)
        · generalize hwz : World.setCell _ _ _ = wz
          have hK : ∀ k, k ≠ w.heap.size + 1 + 1 → wz.heap[k]? = w2.heap[k]? := by
            intro k h0; rw [← hwz]
            refine (Below.heap_setCell _ _ _ _ (by exact h0)).trans ?_
            refine (Below.heap_setCell _ _ _ _ (by exact h0)).trans ?_
            refine (Below.heap_setCell _ _ _ _ (by exact h0)).trans ?_
            refine (Below.heap_setCell _ _ _ _ (by exact h0)).trans ?_
            refine (Below.heap_setCell _ _ _ _ (by exact h0)).trans ?_
            refine (Below.heap_setCell _ _ _ _ (by exact h0)).trans ?_
            rfl
          have z_xt : Box wz (w.heap.size + 1) #[.int .i64 tI0, .int .i64 tI1] 40 := (hK _ (by omega)).trans xt
          exact ⟨z_xt.two.1, z_xt.two.2.1⟩
        clear cxr_0 cxr_1 cxr_2 cxr_3 cxr_4 cxr_5 fxr_0 fxr_1 fxr_2 fxr_3 fxr_4 fxr_5
        clear hS
        have hS := hS_
        clear hS_
        revert hS
        generalize hw3 : World.setCell _ _ _ = w3
        have z3 : w2.heap.size ≤ w3.heap.size := by rw [← hw3]; simp [size_drew]
        have B3 : Below w.heap.size w w3 := by rw [← hw3]; repeat (with_reducible (first | assumption | exact Below.refl _ _ | refine Below.alloc ?_ (by first | omega | (simp; done) | (simp; omega)) _ | refine Below.setCell ?_ (by first | omega | (simp; done) | (simp; omega)) _ | refine Below.drew ?_ | refine below_drewN ?_ _))
        have hK : ∀ k, k ≠ w.heap.size + 1 + 1 → k < w2.heap.size → w3.heap[k]? = w2.heap[k]? := by
          intro k h0 hk; rw [← hw3]
          refine (Below.heap_setCell _ _ _ _ (by exact h0)).trans ?_
          refine (Below.heap_setCell _ _ _ _ (by exact h0)).trans ?_
          refine (Below.heap_setCell _ _ _ _ (by exact h0)).trans ?_
          refine (Below.heap_setCell _ _ _ _ (by exact h0)).trans ?_
          refine (Below.heap_setCell _ _ _ _ (by exact h0)).trans ?_
          refine (Below.heap_setCell _ _ _ _ (by exact h0)).trans ?_
          rfl
        have xk_ : Box w3 (w.heap.size) #[.int .i64 kI0, (.slice kA1 kn1 kc1)] 33 := (hK _ (by omega) (by have := xk.lt; omega)).trans xk
        clear xk; have xk := xk_; clear xk_
        have xt_ : Box w3 (w.heap.size + 1) #[.int .i64 tI0, .int .i64 tI1] 40 := (hK _ (by omega) (by have := xt.lt; omega)).trans xt
        clear xt; have xt := xt_; clear xt_
        have xq_ : Box w3 (w.heap.size + 1 + 1 + 1) #[.int .i64 0, .int .i64 0] 40 := (hK _ (by omega) (by have := xq.lt; omega)).trans xq
        clear xq; have xq := xq_; clear xq_
        have xr_ : Box w3 (w.heap.size + 1 + 1) #[.slice none 0 0, .slice none 0 0, .slice none 0 0, .slice none 0 0, .slice none 0 0, .slice none 0 0] 68 := (by rw [← hw3]; exact ((((((xr.drew.setAt (i := 0) (v := .slice none 0 0) (ds := #[.slice none 0 0, .slice none 0 0, .slice none 0 0, .slice none 0 0, .slice none 0 0, .slice none 0 0]) (by simp)).setAt (i := 1) (v := .slice none 0 0) (ds := #[.slice none 0 0, .slice none 0 0, .slice none 0 0, .slice none 0 0, .slice none 0 0, .slice none 0 0]) (by simp)).setAt (i := 2) (v := .slice none 0 0) (ds := #[.slice none 0 0, .slice none 0 0, .slice none 0 0, .slice none 0 0, .slice none 0 0, .slice none 0 0]) (by simp)).setAt (i := 3) (v := .slice none 0 0) (ds := #[.slice none 0 0, .slice none 0 0, .slice none 0 0, .slice none 0 0, .slice none 0 0, .slice none 0 0]) (by simp)).setAt (i := 4) (v := .slice none 0 0) (ds := #[.slice none 0 0, .slice none 0 0, .slice none 0 0, .slice none 0 0, .slice none 0 0, .slice none 0 0]) (by simp)).setAt (i := 5) (v := .slice none 0 0) (ds := #[.slice none 0 0, .slice none 0 0, .slice none 0 0, .slice none 0 0, .slice none 0 0, .slice none 0 0]) (by simp)))
        clear xr; have xr := xr_; clear xr_
        (try clear b3)
        (try clear B2)
        clear hw3 hK
        intro hS
        (try simp only [Act.put, layA, layB, layC])
        refine on 3 ?_
        obtain ⟨cxq_0, cxq_1, fxq_0, fxq_1⟩ := xq.two
        refine skipH (by go_simp; (first | done | with_reducible rfl | exact ⟨rfl, rfl⟩)) ?_ (fun hS_ => ?_)
        · generalize hwz : World.setCell _ _ _ = wz
          have hK : ∀ k, k ≠ w.heap.size + 1 + 1 + 1 → wz.heap[k]? = w3.heap[k]? := by
            intro k h0; rw [← hwz]
            refine (Below.heap_setCell _ _ _ _ (by exact h0)).trans ?_
            refine (Below.heap_setCell _ _ _ _ (by exact h0)).trans ?_
            rfl
          have z_xt : Box wz (w.heap.size + 1) #[.int .i64 tI0, .int .i64 tI1] 40 := (hK _ (by omega)).trans xt
          exact ⟨z_xt.two.1, z_xt.two.2.1⟩
        clear cxq_0 cxq_1 fxq_0 fxq_1
        clear hS
        have hS := hS_
        clear hS_
        (try simp only [Act.put, layA, layB, layC])
        clear hS
        refine wpAnyH_done (by kernel_rfl) ?_ _
        obtain ⟨cxr_0, cxr_1, cxr_2, cxr_3, cxr_4, cxr_5, fxr_0, fxr_1, fxr_2, fxr_3, fxr_4, fxr_5⟩ := xr.six
        have l_xr_0 : w.heap.size + 1 + 1 < w3.heap.size := by omega
        obtain ⟨cxq_0, cxq_1, fxq_0, fxq_1⟩ := xq.two
        have l_xq_0 : w.heap.size + 1 + 1 + 1 < w3.heap.size := by omega
        go_wp2
        refine bodyPost_ret (v := .tuple #[.agg #[.slice none 0 0, .slice none 0 0, .slice none 0 0, .slice none 0 0, .slice none 0 0, .slice none 0 0], .agg #[.int .i64 tI0, .int .i64 tI1]]) ?_ rfl ⟨none, 0, 0, none, 0, 0, none, 0, 0, none, 0, 0, none, 0, 0, none, 0, 0, by rw [mT_no HO.out], ?_, ?_⟩
        · simp [results, Try.results84, go_sem, cxr_0, cxr_1, cxr_2, cxr_3, cxr_4, cxr_5, fxr_0, fxr_1, fxr_2, fxr_3, fxr_4, fxr_5, l_xr_0, cxq_0, cxq_1, fxq_0, fxq_1, l_xq_0]
        · rw [mAS_no HO.out, mAM_no HO.out, mBS_no HO.out, mBM_no HO.out, mCS_no HO.out, mCM_no HO.out]; exact OwnL.nones _ (by simp) (by first | omega | (simp [size_drew]; done) | (simp [size_drew]; omega))
        · repeat (with_reducible (first | assumption | exact Below.refl _ _ | refine Below.alloc ?_ (by first | omega | (simp; done) | (simp; omega)) _ | refine Below.setCell ?_ (by first | omega | (simp; done) | (simp; omega)) _ | refine Below.drew ?_ | refine below_drewN ?_ _))
      | false =>
        have q3 : decide (tI1 ≤ 800000) = true := by simp at k3 ⊢; omega
        have HO : Hid (mOk kI0 kL1 tI0 tI1 = true) := by show _ = _; simp [mOk, k1, k2, q3]
        go_enter Try.func84, Try.ntmps84
        go_wp2_with fail
        refine (iKeysOk_L kI0 (RdL.b kH) kL1n).mono ?_
        rintro e w1 ⟨rfl, b1⟩
        have z1 := b1.size
        try simp only [World.size_alloc, World.size_setCell, size_drew] at z1
        have B1 : Below w.heap.size w w1 := Below.t b1
        have xk_ : Box w1 (w.heap.size) #[.int .i64 kI0, (.slice kA1 kn1 kc1)] 33 := ((((Box.new (g := w.heap.size) _ #[.int .i64 kI0, (.slice kA1 kn1 kc1)] 33 (by simp)).alloc _).alloc _).alloc _).below b1 (by first | omega | (simp [size_drew]; done) | (simp [size_drew]; omega))
        have xk := xk_; clear xk_
        have xt_ : Box w1 (w.heap.size + 1) #[.int .i64 tI0, .int .i64 tI1] 40 := (((Box.new (g := w.heap.size + 1) _ #[.int .i64 tI0, .int .i64 tI1] 40 (by simp)).alloc _).alloc _).below b1 (by first | omega | (simp [size_drew]; done) | (simp [size_drew]; omega))
        have xt := xt_; clear xt_
        have xr_ : Box w1 (w.heap.size + 1 + 1) #[.slice none 0 0, .slice none 0 0, .slice none 0 0, .slice none 0 0, .slice none 0 0, .slice none 0 0] 68 := ((Box.new (g := w.heap.size + 1 + 1) _ #[.slice none 0 0, .slice none 0 0, .slice none 0 0, .slice none 0 0, .slice none 0 0, .slice none 0 0] 68 (by simp)).alloc _).below b1 (by first | omega | (simp [size_drew]; done) | (simp [size_drew]; omega))
        have xr := xr_; clear xr_
        have xq_ : Box w1 (w.heap.size + 1 + 1 + 1) #[.int .i64 0, .int .i64 0] 40 := (Box.new (g := w.heap.size + 1 + 1 + 1) _ #[.int .i64 0, .int .i64 0] 40 (by simp)).below b1 (by first | omega | (simp [size_drew]; done) | (simp [size_drew]; omega))
        have xq := xq_; clear xq_
        (try clear b1)
        obtain ⟨cxt_0, cxt_1, fxt_0, fxt_1⟩ := xt.two
        have l_xt_0 : w.heap.size + 1 < w1.heap.size := by omega
        go_wp2_with fail
        refine (iTapeOk_any tI0 tI1 _).mono ?_
        rintro e w2 ⟨rfl, b2⟩
        clear cxt_0 cxt_1 fxt_0 fxt_1 l_xt_0
        have z2 := b2.size
        try simp only [World.size_alloc, World.size_setCell, size_drew] at z2
        have B2 : Below w.heap.size w w2 := Below.t b2
        have xk_ : Box w2 (w.heap.size) #[.int .i64 kI0, (.slice kA1 kn1 kc1)] 33 := xk.below b2 (by first | omega | (simp [size_drew]; done) | (simp [size_drew]; omega))
        clear xk; have xk := xk_; clear xk_
        have xt_ : Box w2 (w.heap.size + 1) #[.int .i64 tI0, .int .i64 tI1] 40 := xt.below b2 (by first | omega | (simp [size_drew]; done) | (simp [size_drew]; omega))
        clear xt; have xt := xt_; clear xt_
        have xr_ : Box w2 (w.heap.size + 1 + 1) #[.slice none 0 0, .slice none 0 0, .slice none 0 0, .slice none 0 0, .slice none 0 0, .slice none 0 0] 68 := xr.below b2 (by first | omega | (simp [size_drew]; done) | (simp [size_drew]; omega))
        clear xr; have xr := xr_; clear xr_
        have xq_ : Box w2 (w.heap.size + 1 + 1 + 1) #[.int .i64 0, .int .i64 0] 40 := xq.below b2 (by first | omega | (simp [size_drew]; done) | (simp [size_drew]; omega))
        clear xq; have xq := xq_; clear xq_
        (try clear b2)
        (try clear B1)
        obtain ⟨cxk_0, cxk_1, fxk_0, fxk_1⟩ := xk.two
        have l_xk_0 : w.heap.size < w2.heap.size := by omega
        have l_xk_1 : w.heap.size < w2.heap.size + 1 := by omega
        obtain ⟨cxt_0, cxt_1, fxt_0, fxt_1⟩ := xt.two
        have l_xt_0 : w.heap.size + 1 < w2.heap.size := by omega
        have l_xt_1 : w.heap.size + 1 < w2.heap.size + 1 := by omega
        go_wp2_with fail
        refine (iTapeBelow_any tI0 (tI1) kI0 _).mono ?_
        rintro e w3 ⟨rfl, b3⟩
        clear cxk_0 cxk_1 fxk_0 fxk_1 l_xk_0 l_xk_1 cxt_0 cxt_1 fxt_0 fxt_1 l_xt_0 l_xt_1
        have z3 := b3.size
        try simp only [World.size_alloc, World.size_setCell, size_drew] at z3
        have B3 : Below w.heap.size w w3 := Below.t b3
        have xk_ : Box w3 (w.heap.size) #[.int .i64 kI0, (.slice kA1 kn1 kc1)] 33 := (xk.alloc _).below b3 (by first | omega | (simp [size_drew]; done) | (simp [size_drew]; omega))
        clear xk; have xk := xk_; clear xk_
        have xt_ : Box w3 (w.heap.size + 1) #[.int .i64 tI0, .int .i64 tI1] 40 := (xt.alloc _).below b3 (by first | omega | (simp [size_drew]; done) | (simp [size_drew]; omega))
        clear xt; have xt := xt_; clear xt_
        have xr_ : Box w3 (w.heap.size + 1 + 1) #[.slice none 0 0, .slice none 0 0, .slice none 0 0, .slice none 0 0, .slice none 0 0, .slice none 0 0] 68 := (xr.alloc _).below b3 (by first | omega | (simp [size_drew]; done) | (simp [size_drew]; omega))
        clear xr; have xr := xr_; clear xr_
        have xq_ : Box w3 (w.heap.size + 1 + 1 + 1) #[.int .i64 0, .int .i64 0] 40 := (xq.alloc _).below b3 (by first | omega | (simp [size_drew]; done) | (simp [size_drew]; omega))
        clear xq; have xq := xq_; clear xq_
        have xo_ : Box w3 (w2.heap.size) #[.slice none 0 0, .slice none 0 0, .slice none 0 0, .slice none 0 0, .slice none 0 0, .slice none 0 0] 68 := (Box.new (g := w2.heap.size) _ #[.slice none 0 0, .slice none 0 0, .slice none 0 0, .slice none 0 0, .slice none 0 0, .slice none 0 0] 68 (by simp)).below b3 (by first | omega | (simp [size_drew]; done) | (simp [size_drew]; omega))
        have xo := xo_; clear xo_
        (try clear b3)
        (try clear B2)
        obtain ⟨cxt_0, cxt_1, fxt_0, fxt_1⟩ := xt.two
        have l_xt_0 : w.heap.size + 1 < w3.heap.size := by omega
        obtain ⟨cxk_0, cxk_1, fxk_0, fxk_1⟩ := xk.two
        have l_xk_0 : w.heap.size < w3.heap.size := by omega
        go_wp2_with fail
        refine (iTapeBelow_any tI0 (tapeM tI0 tI1 kI0) kI0 _).mono ?_
        rintro e w4 ⟨rfl, b4⟩
        clear cxt_0 cxt_1 fxt_0 fxt_1 l_xt_0 cxk_0 cxk_1 fxk_0 fxk_1 l_xk_0
        have z4 := b4.size
        try simp only [World.size_alloc, World.size_setCell, size_drew] at z4
        have B4 : Below w.heap.size w w4 := Below.t b4
        have xk_ : Box w4 (w.heap.size) #[.int .i64 kI0, (.slice kA1 kn1 kc1)] 33 := ((xk.far (by omega)).far (by omega)).below b4 (by first | omega | (simp [size_drew]; done) | (simp [size_drew]; omega))
        clear xk; have xk := xk_; clear xk_
        have xt_ : Box w4 (w.heap.size + 1) #[.int .i64 tI0, .int .i64 (tapeM tI0 tI1 kI0)] 40 := ((xt.setAt (i := 0) (v := .int .i64 tI0) (ds := #[.int .i64 tI0, .int .i64 tI1]) (by simp)).setAt (i := 1) (v := .int .i64 (tapeM tI0 tI1 kI0)) (ds := #[.int .i64 tI0, .int .i64 (tapeM tI0 tI1 kI0)]) (by simp)).below b4 (by first | omega | (simp [size_drew]; done) | (simp [size_drew]; omega))
        clear xt; have xt := xt_; clear xt_
        have xr_ : Box w4 (w.heap.size + 1 + 1) #[.slice none 0 0, .slice none 0 0, .slice none 0 0, .slice none 0 0, .slice none 0 0, .slice none 0 0] 68 := ((xr.far (by omega)).far (by omega)).below b4 (by first | omega | (simp [size_drew]; done) | (simp [size_drew]; omega))
        clear xr; have xr := xr_; clear xr_
        have xq_ : Box w4 (w.heap.size + 1 + 1 + 1) #[.int .i64 0, .int .i64 0] 40 := ((xq.far (by omega)).far (by omega)).below b4 (by first | omega | (simp [size_drew]; done) | (simp [size_drew]; omega))
        clear xq; have xq := xq_; clear xq_
        have xo_ : Box w4 (w2.heap.size) #[.slice none 0 0, .slice none 0 0, .slice none 0 0, .slice none 0 0, .slice none 0 0, .slice none 0 0] 68 := ((xo.far (by omega)).far (by omega)).below b4 (by first | omega | (simp [size_drew]; done) | (simp [size_drew]; omega))
        clear xo; have xo := xo_; clear xo_
        (try clear b4)
        (try clear B3)
        obtain ⟨cxt_0, cxt_1, fxt_0, fxt_1⟩ := xt.two
        have l_xt_0 : w.heap.size + 1 < w4.heap.size := by omega
        obtain ⟨cxk_0, cxk_1, fxk_0, fxk_1⟩ := xk.two
        have l_xk_0 : w.heap.size < w4.heap.size := by omega
        go_wp2_with fail
        refine (iAuthNew_L kI0 (RdL.b kH) kL1n (tapeB tI0 tI1 kI0) tI0 (tapeM tI0 (tapeM tI0 tI1 kI0) kI0)).mono ?_
        rintro e w5 ⟨pA0, pn0, pc0, pA1, pn1, pc1, rfl, rp, b5⟩
        clear cxt_0 cxt_1 fxt_0 fxt_1 l_xt_0 cxk_0 cxk_1 fxk_0 fxk_1 l_xk_0
        have z5 := b5.size
        try simp only [World.size_alloc, World.size_setCell, size_drew] at z5
        have B5 : Below w.heap.size w w5 := Below.t b5
        have xk_ : Box w5 (w.heap.size) #[.int .i64 kI0, (.slice kA1 kn1 kc1)] 33 := ((xk.far (by omega)).far (by omega)).below b5 (by first | omega | (simp [size_drew]; done) | (simp [size_drew]; omega))
        clear xk; have xk := xk_; clear xk_
        have xt_ : Box w5 (w.heap.size + 1) #[.int .i64 tI0, .int .i64 (tapeM tI0 (tapeM tI0 tI1 kI0) kI0)] 40 := ((xt.setAt (i := 0) (v := .int .i64 tI0) (ds := #[.int .i64 tI0, .int .i64 (tapeM tI0 tI1 kI0)]) (by simp)).setAt (i := 1) (v := .int .i64 (tapeM tI0 (tapeM tI0 tI1 kI0) kI0)) (ds := #[.int .i64 tI0, .int .i64 (tapeM tI0 (tapeM tI0 tI1 kI0) kI0)]) (by simp)).below b5 (by first | omega | (simp [size_drew]; done) | (simp [size_drew]; omega))
        clear xt; have xt := xt_; clear xt_
        have xr_ : Box w5 (w.heap.size + 1 + 1) #[.slice none 0 0, .slice none 0 0, .slice none 0 0, .slice none 0 0, .slice none 0 0, .slice none 0 0] 68 := ((xr.far (by omega)).far (by omega)).below b5 (by first | omega | (simp [size_drew]; done) | (simp [size_drew]; omega))
        clear xr; have xr := xr_; clear xr_
        have xq_ : Box w5 (w.heap.size + 1 + 1 + 1) #[.int .i64 0, .int .i64 0] 40 := ((xq.far (by omega)).far (by omega)).below b5 (by first | omega | (simp [size_drew]; done) | (simp [size_drew]; omega))
        clear xq; have xq := xq_; clear xq_
        have xo_ : Box w5 (w2.heap.size) #[.slice none 0 0, .slice none 0 0, .slice none 0 0, .slice none 0 0, .slice none 0 0, .slice none 0 0] 68 := ((xo.far (by omega)).far (by omega)).below b5 (by first | omega | (simp [size_drew]; done) | (simp [size_drew]; omega))
        clear xo; have xo := xo_; clear xo_
        (try clear b5)
        (try clear B4)
        try simp only [World.size_alloc, World.size_setCell, size_drew] at rp
        obtain ⟨cxo_0, cxo_1, cxo_2, cxo_3, cxo_4, cxo_5, fxo_0, fxo_1, fxo_2, fxo_3, fxo_4, fxo_5⟩ := xo.six
        have l_xo_0 : w2.heap.size < w5.heap.size := by omega
        obtain ⟨cxt_0, cxt_1, fxt_0, fxt_1⟩ := xt.two
        have l_xt_0 : w.heap.size + 1 < w5.heap.size := by omega
        obtain ⟨cxk_0, cxk_1, fxk_0, fxk_1⟩ := xk.two
        have l_xk_0 : w.heap.size < w5.heap.size := by omega
        go_wp2_with fail
        refine (iAuthNew_L kI0 (RdL.b kH) kL1n (tapeB tI0 (tapeM tI0 tI1 kI0) kI0) tI0 (nT kI0 kL1 (tapeB tI0 tI1 kI0) tI0 (tapeM tI0 (tapeM tI0 tI1 kI0) kI0))).mono ?_
        rintro e w6 ⟨qA0, qn0, qc0, qA1, qn1, qc1, rfl, rq, b6⟩
        clear cxo_0 cxo_1 cxo_2 cxo_3 cxo_4 cxo_5 fxo_0 fxo_1 fxo_2 fxo_3 fxo_4 fxo_5 l_xo_0 cxt_0 cxt_1 fxt_0 fxt_1 l_xt_0 cxk_0 cxk_1 fxk_0 fxk_1 l_xk_0
        have z6 := b6.size
        try simp only [World.size_alloc, World.size_setCell, size_drew] at z6
        have B6 : Below w.heap.size w w6 := Below.t b6
        have rp_ := ((((rp.setBox (by omega)).setBox (by omega)).setBox (by omega)).setBox (by omega)).below b6
        clear rp; have rp := rp_; clear rp_
        have xk_ : Box w6 (w.heap.size) #[.int .i64 kI0, (.slice kA1 kn1 kc1)] 33 := ((((xk.far (by omega)).far (by omega)).far (by omega)).far (by omega)).below b6 (by first | omega | (simp [size_drew]; done) | (simp [size_drew]; omega))
        clear xk; have xk := xk_; clear xk_
        have xt_ : Box w6 (w.heap.size + 1) #[.int .i64 tI0, .int .i64 (nT kI0 kL1 (tapeB tI0 tI1 kI0) tI0 (tapeM tI0 (tapeM tI0 tI1 kI0) kI0))] 40 := ((((xt.far (by omega)).far (by omega)).setAt (i := 0) (v := .int .i64 tI0) (ds := #[.int .i64 tI0, .int .i64 (tapeM tI0 (tapeM tI0 tI1 kI0) kI0)]) (by simp)).setAt (i := 1) (v := .int .i64 (nT kI0 kL1 (tapeB tI0 tI1 kI0) tI0 (tapeM tI0 (tapeM tI0 tI1 kI0) kI0))) (ds := #[.int .i64 tI0, .int .i64 (nT kI0 kL1 (tapeB tI0 tI1 kI0) tI0 (tapeM tI0 (tapeM tI0 tI1 kI0) kI0))]) (by simp)).below b6 (by first | omega | (simp [size_drew]; done) | (simp [size_drew]; omega))
        clear xt; have xt := xt_; clear xt_
        have xr_ : Box w6 (w.heap.size + 1 + 1) #[.slice none 0 0, .slice none 0 0, .slice none 0 0, .slice none 0 0, .slice none 0 0, .slice none 0 0] 68 := ((((xr.far (by omega)).far (by omega)).far (by omega)).far (by omega)).below b6 (by first | omega | (simp [size_drew]; done) | (simp [size_drew]; omega))
        clear xr; have xr := xr_; clear xr_
        have xq_ : Box w6 (w.heap.size + 1 + 1 + 1) #[.int .i64 0, .int .i64 0] 40 := ((((xq.far (by omega)).far (by omega)).far (by omega)).far (by omega)).below b6 (by first | omega | (simp [size_drew]; done) | (simp [size_drew]; omega))
        clear xq; have xq := xq_; clear xq_
        have xo_ : Box w6 (w2.heap.size) #[.slice pA0 pn0 pc0, .slice pA1 pn1 pc1, .slice none 0 0, .slice none 0 0, .slice none 0 0, .slice none 0 0] 68 := ((((xo.setAt (i := 0) (v := .slice pA0 pn0 pc0) (ds := #[.slice pA0 pn0 pc0, .slice none 0 0, .slice none 0 0, .slice none 0 0, .slice none 0 0, .slice none 0 0]) (by simp)).setAt (i := 1) (v := .slice pA1 pn1 pc1) (ds := #[.slice pA0 pn0 pc0, .slice pA1 pn1 pc1, .slice none 0 0, .slice none 0 0, .slice none 0 0, .slice none 0 0]) (by simp)).far (by omega)).far (by omega)).below b6 (by first | omega | (simp [size_drew]; done) | (simp [size_drew]; omega))
        clear xo; have xo := xo_; clear xo_
        (try clear b6)
        (try clear B5)
        try simp only [World.size_alloc, World.size_setCell, size_drew] at rq
        obtain ⟨cxo_0, cxo_1, cxo_2, cxo_3, cxo_4, cxo_5, fxo_0, fxo_1, fxo_2, fxo_3, fxo_4, fxo_5⟩ := xo.six
        have l_xo_0 : w2.heap.size < w6.heap.size := by omega
        obtain ⟨cxt_0, cxt_1, fxt_0, fxt_1⟩ := xt.two
        have l_xt_0 : w.heap.size + 1 < w6.heap.size := by omega
        obtain ⟨cxk_0, cxk_1, fxk_0, fxk_1⟩ := xk.two
        have l_xk_0 : w.heap.size < w6.heap.size := by omega
        go_wp2_with fail
        clear cxo_0 cxo_1 cxo_2 cxo_3 cxo_4 cxo_5 fxo_0 fxo_1 fxo_2 fxo_3 fxo_4 fxo_5 l_xo_0 cxt_0 cxt_1 fxt_0 fxt_1 l_xt_0 cxk_0 cxk_1 fxk_0 fxk_1 l_xk_0
        generalize hw7 : World.setCell _ _ _ = w7
        have z7 : w6.heap.size ≤ w7.heap.size := by rw [← hw7]; simp
        have B7 : Below w.heap.size w w7 := by rw [← hw7]; repeat (with_reducible (first | assumption | exact Below.refl _ _ | refine Below.alloc ?_ (by first | omega | (simp; done) | (simp; omega)) _ | refine Below.setCell ?_ (by first | omega | (simp; done) | (simp; omega)) _ | refine Below.drew ?_ | refine below_drewN ?_ _))
        have hK : ∀ k, k ≠ w2.heap.size → k ≠ w.heap.size + 1 → k < w6.heap.size → w7.heap[k]? = w6.heap[k]? := by
          intro k h0 h1 hk; rw [← hw7]
          repeat (first | rfl | refine (Below.heap_setCell _ _ _ _ (by first | exact h0 | exact h1)).trans ?_ | refine (Below.heap_alloc _ _ _ (by first | omega | (simp; omega))).trans ?_)
        have rp_ := rp.keepBlock (w' := w7) (by omega) (fun k h1 h2 => hK k (by omega) (by omega) (by have := rp.2.1; omega))
        clear rp; have rp := rp_; clear rp_
        have rq_ := rq.keepBlock (w' := w7) (by omega) (fun k h1 h2 => hK k (by omega) (by omega) (by have := rq.2.1; omega))
        clear rq; have rq := rq_; clear rq_
        have xk_ : Box w7 (w.heap.size) #[.int .i64 kI0, (.slice kA1 kn1 kc1)] 33 := (hK _ (by omega) (by omega) (by have := xk.lt; omega)).trans xk
        clear xk; have xk := xk_; clear xk_
        have xr_ : Box w7 (w.heap.size + 1 + 1) #[.slice none 0 0, .slice none 0 0, .slice none 0 0, .slice none 0 0, .slice none 0 0, .slice none 0 0] 68 := (hK _ (by omega) (by omega) (by have := xr.lt; omega)).trans xr
        clear xr; have xr := xr_; clear xr_
        have xq_ : Box w7 (w.heap.size + 1 + 1 + 1) #[.int .i64 0, .int .i64 0] 40 := (hK _ (by omega) (by omega) (by have := xq.lt; omega)).trans xq
        clear xq; have xq := xq_; clear xq_
        have xt_ : Box w7 (w.heap.size + 1) #[.int .i64 tI0, .int .i64 (nT kI0 kL1 (tapeB tI0 (tapeM tI0 tI1 kI0) kI0) tI0 (nT kI0 kL1 (tapeB tI0 tI1 kI0) tI0 (tapeM tI0 (tapeM tI0 tI1 kI0) kI0)))] 40 := (by rw [← hw7]; exact ((((xt.far (by omega)).far (by omega)).setAt (i := 0) (v := .int .i64 tI0) (ds := #[.int .i64 tI0, .int .i64 (nT kI0 kL1 (tapeB tI0 tI1 kI0) tI0 (tapeM tI0 (tapeM tI0 tI1 kI0) kI0))]) (by simp)).setAt (i := 1) (v := .int .i64 (nT kI0 kL1 (tapeB tI0 (tapeM tI0 tI1 kI0) kI0) tI0 (nT kI0 kL1 (tapeB tI0 tI1 kI0) tI0 (tapeM tI0 (tapeM tI0 tI1 kI0) kI0)))) (ds := #[.int .i64 tI0, .int .i64 (nT kI0 kL1 (tapeB tI0 (tapeM tI0 tI1 kI0) kI0) tI0 (nT kI0 kL1 (tapeB tI0 tI1 kI0) tI0 (tapeM tI0 (tapeM tI0 tI1 kI0) kI0)))]) (by simp)))
        clear xt; have xt := xt_; clear xt_
        have xo_ : Box w7 (w2.heap.size) #[.slice pA0 pn0 pc0, .slice pA1 pn1 pc1, .slice qA0 qn0 qc0, .slice qA1 qn1 qc1, .slice none 0 0, .slice none 0 0] 68 := (by rw [← hw7]; exact ((((xo.setAt (i := 2) (v := .slice qA0 qn0 qc0) (ds := #[.slice pA0 pn0 pc0, .slice pA1 pn1 pc1, .slice qA0 qn0 qc0, .slice none 0 0, .slice none 0 0, .slice none 0 0]) (by simp)).setAt (i := 3) (v := .slice qA1 qn1 qc1) (ds := #[.slice pA0 pn0 pc0, .slice pA1 pn1 pc1, .slice qA0 qn0 qc0, .slice qA1 qn1 qc1, .slice none 0 0, .slice none 0 0]) (by simp)).far (by omega)).far (by omega)))
        clear xo; have xo := xo_; clear xo_
        (try clear b7)
        (try clear B6)
        clear hw7 hK
        obtain ⟨cxk_0, cxk_1, fxk_0, fxk_1⟩ := xk.two
        have l_xk_0 : w.heap.size < w7.heap.size := by omega
        obtain ⟨cxt_0, cxt_1, fxt_0, fxt_1⟩ := xt.two
        have l_xt_0 : w.heap.size + 1 < w7.heap.size := by omega
        go_wp2_with fail
        clear cxk_0 cxk_1 fxk_0 fxk_1 l_xk_0 cxt_0 cxt_1 fxt_0 fxt_1 l_xt_0
        refine wp_region_M [12, 13] (w7.heap.size) 14 (S := fun W => Below w.heap.size w W ∧ Below w7.heap.size w7 W ∧ W.cell? ⟨w.heap.size, 0, none⟩ = some (.int .i64 kI0) ∧ W.cell? ⟨w.heap.size, 1, none⟩ = some ((.slice kA1 kn1 kc1)) ∧ W.cell? ⟨w.heap.size + 1, 0, none⟩ = some (.int .i64 tI0) ∧ W.cell? ⟨w.heap.size + 1, 1, none⟩ = some (.int .i64 (nT kI0 kL1 (tapeB tI0 (tapeM tI0 tI1 kI0) kI0) tI0 (nT kI0 kL1 (tapeB tI0 tI1 kI0) tI0 (tapeM tI0 (tapeM tI0 tI1 kI0) kI0))))) (by kernel_rfl) (by rfl) (fun W hW => ⟨Below.trans (b := _) (by repeat (with_reducible (first | assumption | exact Below.refl _ _ | refine Below.alloc ?_ (by first | omega | (simp; done) | (simp; omega)) _ | refine Below.setCell ?_ (by first | omega | (simp; done) | (simp; omega)) _ | refine Below.drew ?_ | refine below_drewN ?_ _))) (Below.mono hW (by first | omega | (simp [size_drew]; done) | (simp [size_drew]; omega))), Below.trans (b := _) (by repeat (with_reducible (first | assumption | exact Below.refl _ _ | refine Below.alloc ?_ (by first | omega | (simp; done) | (simp; omega)) _ | refine Below.setCell ?_ (by first | omega | (simp; done) | (simp; omega)) _ | refine Below.drew ?_ | refine below_drewN ?_ _))) (Below.mono hW (by first | omega | (simp [size_drew]; done) | (simp [size_drew]; omega))), (Box.below xk.drew hW (by first | omega | (simp [size_drew]; done) | (simp [size_drew]; omega))).two.1, (Box.below xk.drew hW (by first | omega | (simp [size_drew]; done) | (simp [size_drew]; omega))).two.2.1, (Box.below xt.drew hW (by first | omega | (simp [size_drew]; done) | (simp [size_drew]; omega))).two.1, (Box.below xt.drew hW (by first | omega | (simp [size_drew]; done) | (simp [size_drew]; omega))).two.2.1⟩) (by first | omega | (simp [size_drew]; done) | (simp [size_drew]; omega)) (fun hS hG => ?_)
        (try dsimp only at hS)
        (refine tkM 0 hG hS ?_; (try simp only [Act.put, layA, layB, layC]))
        (refine tkM 1 hG hS ?_; (try simp only [Act.put, layA, layB, layC]))
        (refine tkM 2 hG hS ?_; (try simp only [Act.put, layA, layB, layC]))
        (refine tkM 3 hG hS ?_; (try simp only [Act.put, layA, layB, layC]))
        (refine tkM 4 hG hS ?_; (try simp only [Act.put, layA, layB, layC]))
        (refine tkM 6 hG hS ?_; (try simp only [Act.put, layA, layB, layC]))
        refine callM hG (i := 5) (by simp only [List.getElem?_toArray, List.getElem?_cons_succ, List.getElem?_cons_zero] <;> rfl) (by kernel_rfl) (by rfl) (by rfl) (by intro W hW; have hSw := hS W hW; (try dsimp only at hSw); go_simp; (first | done | with_reducible rfl | exact ⟨rfl, rfl⟩)) ?_
        intro w8 b8
        have B8 : Below w.heap.size w w8 := (hS w8 b8).1
        have z8 := Below.size b8
        (try simp only [World.size_alloc, World.size_setCell, size_drew] at z8)
        have rp_ := (rp.drew.below b8)
        clear rp; have rp := rp_; clear rp_
        have rq_ := (rq.drew.below b8)
        clear rq; have rq := rq_; clear rq_
        have xt_ : Box w8 (w.heap.size + 1) #[.int .i64 tI0, .int .i64 (nT kI0 kL1 (tapeB tI0 (tapeM tI0 tI1 kI0) kI0) tI0 (nT kI0 kL1 (tapeB tI0 tI1 kI0) tI0 (tapeM tI0 (tapeM tI0 tI1 kI0) kI0)))] 40 := (Box.b xt.drew b8)
        clear xt; have xt := xt_; clear xt_
        have xo_ : Box w8 (w2.heap.size) #[.slice pA0 pn0 pc0, .slice pA1 pn1 pc1, .slice qA0 qn0 qc0, .slice qA1 qn1 qc1, .slice none 0 0, .slice none 0 0] 68 := (Box.b xo.drew b8)
        clear xo; have xo := xo_; clear xo_
        have xk_ : Box w8 (w.heap.size) #[.int .i64 kI0, (.slice kA1 kn1 kc1)] 33 := (Box.b xk.drew b8)
        clear xk; have xk := xk_; clear xk_
        have xr_ : Box w8 (w.heap.size + 1 + 1) #[.slice none 0 0, .slice none 0 0, .slice none 0 0, .slice none 0 0, .slice none 0 0, .slice none 0 0] 68 := (Box.b xr.drew b8)
        clear xr; have xr := xr_; clear xr_
        have xq_ : Box w8 (w.heap.size + 1 + 1 + 1) #[.int .i64 0, .int .i64 0] 40 := (Box.b xq.drew b8)
        clear xq; have xq := xq_; clear xq_
        (try clear b8)
        (try clear B7)
        clear hS hG
        go_at_call 101
        refine (iFMul_any _ _ _ _).mono ?_
        rintro e w9 ⟨rfl, b9⟩
        refine ⟨_, rfl, b9, fun hG => ?_⟩
        have z9 := Below.size b9
        have B9 : Below w.heap.size w w9 := Below.t b9
        have rp_ := (rp.below b9)
        clear rp; have rp := rp_; clear rp_
        have rq_ := (rq.below b9)
        clear rq; have rq := rq_; clear rq_
        have xt_ : Box w9 (w.heap.size + 1) #[.int .i64 tI0, .int .i64 (nT kI0 kL1 (tapeB tI0 (tapeM tI0 tI1 kI0) kI0) tI0 (nT kI0 kL1 (tapeB tI0 tI1 kI0) tI0 (tapeM tI0 (tapeM tI0 tI1 kI0) kI0)))] 40 := (Box.b xt b9)
        clear xt; have xt := xt_; clear xt_
        have xo_ : Box w9 (w2.heap.size) #[.slice pA0 pn0 pc0, .slice pA1 pn1 pc1, .slice qA0 qn0 qc0, .slice qA1 qn1 qc1, .slice none 0 0, .slice none 0 0] 68 := (Box.b xo b9)
        clear xo; have xo := xo_; clear xo_
        have xk_ : Box w9 (w.heap.size) #[.int .i64 kI0, (.slice kA1 kn1 kc1)] 33 := (Box.b xk b9)
        clear xk; have xk := xk_; clear xk_
        have xr_ : Box w9 (w.heap.size + 1 + 1) #[.slice none 0 0, .slice none 0 0, .slice none 0 0, .slice none 0 0, .slice none 0 0, .slice none 0 0] 68 := (Box.b xr b9)
        clear xr; have xr := xr_; clear xr_
        have xq_ : Box w9 (w.heap.size + 1 + 1 + 1) #[.int .i64 0, .int .i64 0] 40 := (Box.b xq b9)
        clear xq; have xq := xq_; clear xq_
        (try clear b9)
        (try clear B8)
        (try simp only [Act.put, layA, layB, layC])
        have hS : ∀ W, Later w9 W → (Below w.heap.size w W ∧ Below w9.heap.size w9 W ∧ W.cell? ⟨w.heap.size, 0, none⟩ = some (.int .i64 kI0) ∧ W.cell? ⟨w.heap.size, 1, none⟩ = some ((.slice kA1 kn1 kc1)) ∧ W.cell? ⟨w.heap.size + 1, 0, none⟩ = some (.int .i64 tI0) ∧ W.cell? ⟨w.heap.size + 1, 1, none⟩ = some (.int .i64 (nT kI0 kL1 (tapeB tI0 (tapeM tI0 tI1 kI0) kI0) tI0 (nT kI0 kL1 (tapeB tI0 tI1 kI0) tI0 (tapeM tI0 (tapeM tI0 tI1 kI0) kI0))))) := fun W hW => ⟨Below.trans (b := _) (by repeat (with_reducible (first | assumption | exact Below.refl _ _ | refine Below.alloc ?_ (by first | omega | (simp; done) | (simp; omega)) _ | refine Below.setCell ?_ (by first | omega | (simp; done) | (simp; omega)) _ | refine Below.drew ?_ | refine below_drewN ?_ _))) (Below.mono hW (by first | omega | (simp [size_drew]; done) | (simp [size_drew]; omega))), Below.trans (b := _) (by repeat (with_reducible (first | assumption | exact Below.refl _ _ | refine Below.alloc ?_ (by first | omega | (simp; done) | (simp; omega)) _ | refine Below.setCell ?_ (by first | omega | (simp; done) | (simp; omega)) _ | refine Below.drew ?_ | refine below_drewN ?_ _))) (Below.mono hW (by first | omega | (simp [size_drew]; done) | (simp [size_drew]; omega))), (Box.below xk hW (by first | omega | (simp [size_drew]; done) | (simp [size_drew]; omega))).two.1, (Box.below xk hW (by first | omega | (simp [size_drew]; done) | (simp [size_drew]; omega))).two.2.1, (Box.below xt hW (by first | omega | (simp [size_drew]; done) | (simp [size_drew]; omega))).two.1, (Box.below xt hW (by first | omega | (simp [size_drew]; done) | (simp [size_drew]; omega))).two.2.1⟩
        refine callM hG (i := 7) (by simp only [List.getElem?_toArray, List.getElem?_cons_succ, List.getElem?_cons_zero] <;> rfl) (by kernel_rfl) (by rfl) (by rfl) (by intro W hW; have hSw := hS W hW; (try dsimp only at hSw); go_simp; (first | done | with_reducible rfl | exact ⟨rfl, rfl⟩)) ?_
        intro w10 b10
        have B10 : Below w.heap.size w w10 := (hS w10 b10).1
        have z10 := Below.size b10
        (try simp only [World.size_alloc, World.size_setCell, size_drew] at z10)
        have rp_ := (rp.below b10)
        clear rp; have rp := rp_; clear rp_
        have rq_ := (rq.below b10)
        clear rq; have rq := rq_; clear rq_
        have xt_ : Box w10 (w.heap.size + 1) #[.int .i64 tI0, .int .i64 (nT kI0 kL1 (tapeB tI0 (tapeM tI0 tI1 kI0) kI0) tI0 (nT kI0 kL1 (tapeB tI0 tI1 kI0) tI0 (tapeM tI0 (tapeM tI0 tI1 kI0) kI0)))] 40 := (Box.b xt b10)
        clear xt; have xt := xt_; clear xt_
        have xo_ : Box w10 (w2.heap.size) #[.slice pA0 pn0 pc0, .slice pA1 pn1 pc1, .slice qA0 qn0 qc0, .slice qA1 qn1 qc1, .slice none 0 0, .slice none 0 0] 68 := (Box.b xo b10)
        clear xo; have xo := xo_; clear xo_
        have xk_ : Box w10 (w.heap.size) #[.int .i64 kI0, (.slice kA1 kn1 kc1)] 33 := (Box.b xk b10)
        clear xk; have xk := xk_; clear xk_
        have xr_ : Box w10 (w.heap.size + 1 + 1) #[.slice none 0 0, .slice none 0 0, .slice none 0 0, .slice none 0 0, .slice none 0 0, .slice none 0 0] 68 := (Box.b xr b10)
        clear xr; have xr := xr_; clear xr_
        have xq_ : Box w10 (w.heap.size + 1 + 1 + 1) #[.int .i64 0, .int .i64 0] 40 := (Box.b xq b10)
        clear xq; have xq := xq_; clear xq_
        (try clear b10)
        (try clear B9)
        clear hS hG
        go_at_call 38
        refine (iAuthNew_L kI0 (RdL.b kH) kL1n (fmul kI0 (tapeB tI0 tI1 kI0) (tapeB tI0 (tapeM tI0 tI1 kI0) kI0)) tI0 (nT kI0 kL1 (tapeB tI0 (tapeM tI0 tI1 kI0) kI0) tI0 (nT kI0 kL1 (tapeB tI0 tI1 kI0) tI0 (tapeM tI0 (tapeM tI0 tI1 kI0) kI0)))).mono ?_
        rintro e w11 ⟨uA0, un0, uc0, uA1, un1, uc1, rfl, ru, b11⟩
        refine ⟨_, rfl, b11, fun hG => ?_⟩
        have z11 := Below.size b11
        have B11 : Below w.heap.size w w11 := Below.t b11
        have rp_ := (rp.below b11)
        clear rp; have rp := rp_; clear rp_
        have rq_ := (rq.below b11)
        clear rq; have rq := rq_; clear rq_
        have xt_ : Box w11 (w.heap.size + 1) #[.int .i64 tI0, .int .i64 (nT kI0 kL1 (tapeB tI0 (tapeM tI0 tI1 kI0) kI0) tI0 (nT kI0 kL1 (tapeB tI0 tI1 kI0) tI0 (tapeM tI0 (tapeM tI0 tI1 kI0) kI0)))] 40 := (Box.b xt b11)
        clear xt; have xt := xt_; clear xt_
        have xo_ : Box w11 (w2.heap.size) #[.slice pA0 pn0 pc0, .slice pA1 pn1 pc1, .slice qA0 qn0 qc0, .slice qA1 qn1 qc1, .slice none 0 0, .slice none 0 0] 68 := (Box.b xo b11)
        clear xo; have xo := xo_; clear xo_
        have xk_ : Box w11 (w.heap.size) #[.int .i64 kI0, (.slice kA1 kn1 kc1)] 33 := (Box.b xk b11)
        clear xk; have xk := xk_; clear xk_
        have xr_ : Box w11 (w.heap.size + 1 + 1) #[.slice none 0 0, .slice none 0 0, .slice none 0 0, .slice none 0 0, .slice none 0 0, .slice none 0 0] 68 := (Box.b xr b11)
        clear xr; have xr := xr_; clear xr_
        have xq_ : Box w11 (w.heap.size + 1 + 1 + 1) #[.int .i64 0, .int .i64 0] 40 := (Box.b xq b11)
        clear xq; have xq := xq_; clear xq_
        (try clear b11)
        (try clear B10)
        (try simp only [Act.put, layA, layB, layC])
        have hS : ∀ W, Later w11 W → (Below w.heap.size w W ∧ Below w11.heap.size w11 W ∧ W.cell? ⟨w.heap.size, 0, none⟩ = some (.int .i64 kI0) ∧ W.cell? ⟨w.heap.size, 1, none⟩ = some ((.slice kA1 kn1 kc1)) ∧ W.cell? ⟨w.heap.size + 1, 0, none⟩ = some (.int .i64 tI0) ∧ W.cell? ⟨w.heap.size + 1, 1, none⟩ = some (.int .i64 (nT kI0 kL1 (tapeB tI0 (tapeM tI0 tI1 kI0) kI0) tI0 (nT kI0 kL1 (tapeB tI0 tI1 kI0) tI0 (tapeM tI0 (tapeM tI0 tI1 kI0) kI0))))) := fun W hW => ⟨Below.trans (b := _) (by repeat (with_reducible (first | assumption | exact Below.refl _ _ | refine Below.alloc ?_ (by first | omega | (simp; done) | (simp; omega)) _ | refine Below.setCell ?_ (by first | omega | (simp; done) | (simp; omega)) _ | refine Below.drew ?_ | refine below_drewN ?_ _))) (Below.mono hW (by first | omega | (simp [size_drew]; done) | (simp [size_drew]; omega))), Below.trans (b := _) (by repeat (with_reducible (first | assumption | exact Below.refl _ _ | refine Below.alloc ?_ (by first | omega | (simp; done) | (simp; omega)) _ | refine Below.setCell ?_ (by first | omega | (simp; done) | (simp; omega)) _ | refine Below.drew ?_ | refine below_drewN ?_ _))) (Below.mono hW (by first | omega | (simp [size_drew]; done) | (simp [size_drew]; omega))), (Box.below xk hW (by first | omega | (simp [size_drew]; done) | (simp [size_drew]; omega))).two.1, (Box.below xk hW (by first | omega | (simp [size_drew]; done) | (simp [size_drew]; omega))).two.2.1, (Box.below xt hW (by first | omega | (simp [size_drew]; done) | (simp [size_drew]; omega))).two.1, (Box.below xt hW (by first | omega | (simp [size_drew]; done) | (simp [size_drew]; omega))).two.2.1⟩
        (refine tkM 8 hG hS ?_; (try simp only [Act.put, layA, layB, layC]))
        (refine tkM 9 hG hS ?_; (try simp only [Act.put, layA, layB, layC]))
        (refine tkY 10 hG ?_; (try simp only [Act.put, layA, layB, layC]))
        (refine tkM 11 hG hS ?_; (try simp only [Act.put, layA, layB, layC]))
        refine storeM (z := 12) (by simp only [List.getElem?_toArray, List.getElem?_cons_succ, List.getElem?_cons_zero] <;> rfl) (by kernel_rfl) (by rfl) (by rfl) ?_
        intro w12 b12
        have B12 : Below w.heap.size w w12 := (hS w12 b12).1
        have z12 := Below.size b12
        (try simp only [World.size_alloc, World.size_setCell, size_drew] at z12)
        have rp_ := (rp.below b12)
        clear rp; have rp := rp_; clear rp_
        have rq_ := (rq.below b12)
        clear rq; have rq := rq_; clear rq_
        have ru_ := (ru.below b12)
        clear ru; have ru := ru_; clear ru_
        have xt_ : Box w12 (w.heap.size + 1) #[.int .i64 tI0, .int .i64 (nT kI0 kL1 (tapeB tI0 (tapeM tI0 tI1 kI0) kI0) tI0 (nT kI0 kL1 (tapeB tI0 tI1 kI0) tI0 (tapeM tI0 (tapeM tI0 tI1 kI0) kI0)))] 40 := (Box.b xt b12)
        clear xt; have xt := xt_; clear xt_
        have xo_ : Box w12 (w2.heap.size) #[.slice pA0 pn0 pc0, .slice pA1 pn1 pc1, .slice qA0 qn0 qc0, .slice qA1 qn1 qc1, .slice none 0 0, .slice none 0 0] 68 := (Box.b xo b12)
        clear xo; have xo := xo_; clear xo_
        have xk_ : Box w12 (w.heap.size) #[.int .i64 kI0, (.slice kA1 kn1 kc1)] 33 := (Box.b xk b12)
        clear xk; have xk := xk_; clear xk_
        have xr_ : Box w12 (w.heap.size + 1 + 1) #[.slice none 0 0, .slice none 0 0, .slice none 0 0, .slice none 0 0, .slice none 0 0, .slice none 0 0] 68 := (Box.b xr b12)
        clear xr; have xr := xr_; clear xr_
        have xq_ : Box w12 (w.heap.size + 1 + 1 + 1) #[.int .i64 0, .int .i64 0] 40 := (Box.b xq b12)
        clear xq; have xq := xq_; clear xq_
        (try clear b12)
        (try clear B11)
        clear hS hG
        refine Zc.nil ?_
        (try unfold ptr)
        (try simp only [Act.put, layA, layB, layC])
        obtain ⟨cxo_0, cxo_1, cxo_2, cxo_3, cxo_4, cxo_5, fxo_0, fxo_1, fxo_2, fxo_3, fxo_4, fxo_5⟩ := xo.six
        obtain ⟨cxt_0, cxt_1, fxt_0, fxt_1⟩ := xt.two
        refine ⟨_, by go_simp; (first | done | with_reducible rfl | exact ⟨rfl, rfl⟩), ?_⟩
        (try simp only [Act.put, layA, layB, layC])
        refine skipAny (i := 13) (by simp only [List.getElem?_toArray, List.getElem?_cons_succ, List.getElem?_cons_zero] <;> rfl) (by kernel_rfl) (by rfl) (by go_simp; (first | done | with_reducible rfl | exact ⟨rfl, rfl⟩)) ?_
        (try simp only [Act.put, layA, layB, layC])
        refine wpAny_done (by kernel_rfl) ?_ _
        clear cxo_0 cxo_1 cxo_2 cxo_3 cxo_4 cxo_5 fxo_0 fxo_1 fxo_2 fxo_3 fxo_4 fxo_5 cxt_0 cxt_1 fxt_0 fxt_1
        generalize hw13 : World.setCell _ _ _ = w13
        have z13 : w12.heap.size ≤ w13.heap.size := by rw [← hw13]; simp
        have B13 : Below w.heap.size w w13 := by rw [← hw13]; repeat (with_reducible (first | assumption | exact Below.refl _ _ | refine Below.alloc ?_ (by first | omega | (simp; done) | (simp; omega)) _ | refine Below.setCell ?_ (by first | omega | (simp; done) | (simp; omega)) _ | refine Below.drew ?_ | refine below_drewN ?_ _))
        have hK : ∀ k, k ≠ w2.heap.size → k ≠ w.heap.size + 1 → k < w12.heap.size → w13.heap[k]? = w12.heap[k]? := by
          intro k h0 h1 _; rw [← hw13]
          repeat (first | rfl | refine (Below.heap_setCell _ _ _ _ (by first | exact h0 | exact h1)).trans ?_)
        have rp_ := rp.keepBlock z13 (fun k h1 h2 => hK k (by omega) (by omega) (by have := rp.2.1; omega))
        clear rp; have rp := rp_; clear rp_
        have rq_ := rq.keepBlock z13 (fun k h1 h2 => hK k (by omega) (by omega) (by have := rq.2.1; omega))
        clear rq; have rq := rq_; clear rq_
        have ru_ := ru.keepBlock z13 (fun k h1 h2 => hK k (by omega) (by omega) (by have := ru.2.1; omega))
        clear ru; have ru := ru_; clear ru_
        have xt_ : Box w13 (w.heap.size + 1) #[.int .i64 tI0, .int .i64 (nT kI0 kL1 (fmul kI0 (tapeB tI0 tI1 kI0) (tapeB tI0 (tapeM tI0 tI1 kI0) kI0)) tI0 (nT kI0 kL1 (tapeB tI0 (tapeM tI0 tI1 kI0) kI0) tI0 (nT kI0 kL1 (tapeB tI0 tI1 kI0) tI0 (tapeM tI0 (tapeM tI0 tI1 kI0) kI0))))] 40 := (by rw [← hw13]; exact ((((xt.far (by omega)).far (by omega)).setAt (i := 0) (v := .int .i64 tI0) (ds := #[.int .i64 tI0, .int .i64 (nT kI0 kL1 (tapeB tI0 (tapeM tI0 tI1 kI0) kI0) tI0 (nT kI0 kL1 (tapeB tI0 tI1 kI0) tI0 (tapeM tI0 (tapeM tI0 tI1 kI0) kI0)))]) (by simp)).setAt (i := 1) (v := .int .i64 (nT kI0 kL1 (fmul kI0 (tapeB tI0 tI1 kI0) (tapeB tI0 (tapeM tI0 tI1 kI0) kI0)) tI0 (nT kI0 kL1 (tapeB tI0 (tapeM tI0 tI1 kI0) kI0) tI0 (nT kI0 kL1 (tapeB tI0 tI1 kI0) tI0 (tapeM tI0 (tapeM tI0 tI1 kI0) kI0))))) (ds := #[.int .i64 tI0, .int .i64 (nT kI0 kL1 (fmul kI0 (tapeB tI0 tI1 kI0) (tapeB tI0 (tapeM tI0 tI1 kI0) kI0)) tI0 (nT kI0 kL1 (tapeB tI0 (tapeM tI0 tI1 kI0) kI0) tI0 (nT kI0 kL1 (tapeB tI0 tI1 kI0) tI0 (tapeM tI0 (tapeM tI0 tI1 kI0) kI0))))]) (by simp)))
        clear xt; have xt := xt_; clear xt_
        have xo_ : Box w13 (w2.heap.size) #[.slice pA0 pn0 pc0, .slice pA1 pn1 pc1, .slice qA0 qn0 qc0, .slice qA1 qn1 qc1, .slice uA0 un0 uc0, .slice uA1 un1 uc1] 68 := (by rw [← hw13]; exact ((((xo.setAt (i := 4) (v := .slice uA0 un0 uc0) (ds := #[.slice pA0 pn0 pc0, .slice pA1 pn1 pc1, .slice qA0 qn0 qc0, .slice qA1 qn1 qc1, .slice uA0 un0 uc0, .slice none 0 0]) (by simp)).setAt (i := 5) (v := .slice uA1 un1 uc1) (ds := #[.slice pA0 pn0 pc0, .slice pA1 pn1 pc1, .slice qA0 qn0 qc0, .slice qA1 qn1 qc1, .slice uA0 un0 uc0, .slice uA1 un1 uc1]) (by simp)).far (by omega)).far (by omega)))
        clear xo; have xo := xo_; clear xo_
        have xk_ : Box w13 (w.heap.size) #[.int .i64 kI0, (.slice kA1 kn1 kc1)] 33 := (by rw [← hw13]; exact ((((xk.far (by omega)).far (by omega)).far (by omega)).far (by omega)))
        clear xk; have xk := xk_; clear xk_
        have xr_ : Box w13 (w.heap.size + 1 + 1) #[.slice none 0 0, .slice none 0 0, .slice none 0 0, .slice none 0 0, .slice none 0 0, .slice none 0 0] 68 := (by rw [← hw13]; exact ((((xr.far (by omega)).far (by omega)).far (by omega)).far (by omega)))
        clear xr; have xr := xr_; clear xr_
        have xq_ : Box w13 (w.heap.size + 1 + 1 + 1) #[.int .i64 0, .int .i64 0] 40 := (by rw [← hw13]; exact ((((xq.far (by omega)).far (by omega)).far (by omega)).far (by omega)))
        clear xq; have xq := xq_; clear xq_
        (try clear b13)
        (try clear B12)
        clear hw13 hK
        clear xk
        generalize hD0 : nS kI0 kL1 (tapeB tI0 tI1 kI0) tI0 (tapeM tI0 (tapeM tI0 tI1 kI0) kI0) = D0 at rp
        generalize hD1 : nM kI0 kL1 (tapeB tI0 tI1 kI0) tI0 (tapeM tI0 (tapeM tI0 tI1 kI0) kI0) = D1 at rp
        generalize hD2 : nS kI0 kL1 (tapeB tI0 (tapeM tI0 tI1 kI0) kI0) tI0 (nT kI0 kL1 (tapeB tI0 tI1 kI0) tI0 (tapeM tI0 (tapeM tI0 tI1 kI0) kI0)) = D2 at rq
        generalize hD3 : nM kI0 kL1 (tapeB tI0 (tapeM tI0 tI1 kI0) kI0) tI0 (nT kI0 kL1 (tapeB tI0 tI1 kI0) tI0 (tapeM tI0 (tapeM tI0 tI1 kI0) kI0)) = D3 at rq
        generalize hD4 : nS kI0 kL1 (fmul kI0 (tapeB tI0 tI1 kI0) (tapeB tI0 (tapeM tI0 tI1 kI0) kI0)) tI0 (nT kI0 kL1 (tapeB tI0 (tapeM tI0 tI1 kI0) kI0) tI0 (nT kI0 kL1 (tapeB tI0 tI1 kI0) tI0 (tapeM tI0 (tapeM tI0 tI1 kI0) kI0))) = D4 at ru
        generalize hD5 : nM kI0 kL1 (fmul kI0 (tapeB tI0 tI1 kI0) (tapeB tI0 (tapeM tI0 tI1 kI0) kI0)) tI0 (nT kI0 kL1 (tapeB tI0 (tapeM tI0 tI1 kI0) kI0) tI0 (nT kI0 kL1 (tapeB tI0 tI1 kI0) tI0 (tapeM tI0 (tapeM tI0 tI1 kI0) kI0))) = D5 at ru
        generalize hT5 : nT kI0 kL1 (fmul kI0 (tapeB tI0 tI1 kI0) (tapeB tI0 (tapeM tI0 tI1 kI0) kI0)) tI0 (nT kI0 kL1 (tapeB tI0 (tapeM tI0 tI1 kI0) kI0) tI0 (nT kI0 kL1 (tapeB tI0 tI1 kI0) tI0 (tapeM tI0 (tapeM tI0 tI1 kI0) kI0))) = T5 at xt ⊢
        (try clear kH kL1i kL1l kL1m kL1n k1 k2 k3 q3)
        obtain ⟨cxo_0, cxo_1, cxo_2, cxo_3, cxo_4, cxo_5, fxo_0, fxo_1, fxo_2, fxo_3, fxo_4, fxo_5⟩ := xo.six
        have l_xo_0 : w2.heap.size < w13.heap.size := by omega
        obtain ⟨cxt_0, cxt_1, fxt_0, fxt_1⟩ := xt.two
        have l_xt_0 : w.heap.size + 1 < w13.heap.size := by omega
        go_wp2_with fail
        clear cxo_0 cxo_1 cxo_2 cxo_3 cxo_4 cxo_5 fxo_0 fxo_1 fxo_2 fxo_3 fxo_4 fxo_5 l_xo_0 cxt_0 cxt_1 fxt_0 fxt_1 l_xt_0
        refine wp_region_held_drew (S := fun W => W.cell? ⟨w2.heap.size, 0, none⟩ = some (.slice pA0 pn0 pc0) ∧ W.cell? ⟨w2.heap.size, 1, none⟩ = some (.slice pA1 pn1 pc1) ∧ W.cell? ⟨w2.heap.size, 2, none⟩ = some (.slice qA0 qn0 qc0) ∧ W.cell? ⟨w2.heap.size, 3, none⟩ = some (.slice qA1 qn1 qc1) ∧ W.cell? ⟨w2.heap.size, 4, none⟩ = some (.slice uA0 un0 uc0) ∧ W.cell? ⟨w2.heap.size, 5, none⟩ = some (.slice uA1 un1 uc1) ∧ W.cell? ⟨w.heap.size + 1, 0, none⟩ = some (.int .i64 tI0) ∧ W.cell? ⟨w.heap.size + 1, 1, none⟩ = some (.int .i64 (T5))) (by kernel_rfl) ⟨xo.drew.six.1, xo.drew.six.2.1, xo.drew.six.2.2.1, xo.drew.six.2.2.2.1, xo.drew.six.2.2.2.2.1, xo.drew.six.2.2.2.2.2.1, xt.drew.two.1, xt.drew.two.2.1⟩ (fun hS => ?_)
        (refine tk 0 hS ?_; (try simp only [Act.put, layA, layB, layC]))
        (refine tk 1 hS ?_; (try simp only [Act.put, layA, layB, layC]))
        refine on 2 ?_
        obtain ⟨cxr_0, cxr_1, cxr_2, cxr_3, cxr_4, cxr_5, fxr_0, fxr_1, fxr_2, fxr_3, fxr_4, fxr_5⟩ := xr.six
        refine skipH (by go_simp; (first | done | with_reducible rfl | exact ⟨rfl, rfl⟩)) ?_ (fun hS_ => ?_)
        · generalize hwz : World.setCell _ _ _ = wz
          have hK : ∀ k, k ≠ w.heap.size + 1 + 1 → wz.heap[k]? = w13.heap[k]? := by
            intro k h0; rw [← hwz]
            refine (Below.heap_setCell _ _ _ _ (by exact h0)).trans ?_
            refine (Below.heap_setCell _ _ _ _ (by exact h0)).trans ?_
            refine (Below.heap_setCell _ _ _ _ (by exact h0)).trans ?_
            refine (Below.heap_setCell _ _ _ _ (by exact h0)).trans ?_
            refine (Below.heap_setCell _ _ _ _ (by exact h0)).trans ?_
            refine (Below.heap_setCell _ _ _ _ (by exact h0)).trans ?_
            rfl
          have z_xo : Box wz (w2.heap.size) #[.slice pA0 pn0 pc0, .slice pA1 pn1 pc1, .slice qA0 qn0 qc0, .slice qA1 qn1 qc1, .slice uA0 un0 uc0, .slice uA1 un1 uc1] 68 := (hK _ (by omega)).trans xo
          have z_xt : Box wz (w.heap.size + 1) #[.int .i64 tI0, .int .i64 (T5)] 40 := (hK _ (by omega)).trans xt
          exact ⟨z_xo.six.1, z_xo.six.2.1, z_xo.six.2.2.1, z_xo.six.2.2.2.1, z_xo.six.2.2.2.2.1, z_xo.six.2.2.2.2.2.1, z_xt.two.1, z_xt.two.2.1⟩
        clear cxr_0 cxr_1 cxr_2 cxr_3 cxr_4 cxr_5 fxr_0 fxr_1 fxr_2 fxr_3 fxr_4 fxr_5
        clear hS
        have hS := hS_
        clear hS_
        revert hS
        generalize hw14 : World.setCell _ _ _ = w14
        have z14 : w13.heap.size ≤ w14.heap.size := by rw [← hw14]; simp [size_drew]
        have B14 : Below w.heap.size w w14 := by rw [← hw14]; repeat (with_reducible (first | assumption | exact Below.refl _ _ | refine Below.alloc ?_ (by first | omega | (simp; done) | (simp; omega)) _ | refine Below.setCell ?_ (by first | omega | (simp; done) | (simp; omega)) _ | refine Below.drew ?_ | refine below_drewN ?_ _))
        have hK : ∀ k, k ≠ w.heap.size + 1 + 1 → k < w13.heap.size → w14.heap[k]? = w13.heap[k]? := by
          intro k h0 hk; rw [← hw14]
          refine (Below.heap_setCell _ _ _ _ (by exact h0)).trans ?_
          refine (Below.heap_setCell _ _ _ _ (by exact h0)).trans ?_
          refine (Below.heap_setCell _ _ _ _ (by exact h0)).trans ?_
          refine (Below.heap_setCell _ _ _ _ (by exact h0)).trans ?_
          refine (Below.heap_setCell _ _ _ _ (by exact h0)).trans ?_
          refine (Below.heap_setCell _ _ _ _ (by exact h0)).trans ?_
          rfl
        have rp_ := rp.keepBlock (w' := w14) (by omega) (fun k h1 h2 => hK k (by omega) (by have := rp.2.1; omega))
        clear rp; have rp := rp_; clear rp_
        have rq_ := rq.keepBlock (w' := w14) (by omega) (fun k h1 h2 => hK k (by omega) (by have := rq.2.1; omega))
        clear rq; have rq := rq_; clear rq_
        have ru_ := ru.keepBlock (w' := w14) (by omega) (fun k h1 h2 => hK k (by omega) (by have := ru.2.1; omega))
        clear ru; have ru := ru_; clear ru_
        have xt_ : Box w14 (w.heap.size + 1) #[.int .i64 tI0, .int .i64 (T5)] 40 := (hK _ (by omega) (by have := xt.lt; omega)).trans xt
        clear xt; have xt := xt_; clear xt_
        have xo_ : Box w14 (w2.heap.size) #[.slice pA0 pn0 pc0, .slice pA1 pn1 pc1, .slice qA0 qn0 qc0, .slice qA1 qn1 qc1, .slice uA0 un0 uc0, .slice uA1 un1 uc1] 68 := (hK _ (by omega) (by have := xo.lt; omega)).trans xo
        clear xo; have xo := xo_; clear xo_
        have xq_ : Box w14 (w.heap.size + 1 + 1 + 1) #[.int .i64 0, .int .i64 0] 40 := (hK _ (by omega) (by have := xq.lt; omega)).trans xq
        clear xq; have xq := xq_; clear xq_
        have xr_ : Box w14 (w.heap.size + 1 + 1) #[.slice pA0 pn0 pc0, .slice pA1 pn1 pc1, .slice qA0 qn0 qc0, .slice qA1 qn1 qc1, .slice uA0 un0 uc0, .slice uA1 un1 uc1] 68 := (by rw [← hw14]; exact ((((((xr.drew.setAt (i := 0) (v := .slice pA0 pn0 pc0) (ds := #[.slice pA0 pn0 pc0, .slice none 0 0, .slice none 0 0, .slice none 0 0, .slice none 0 0, .slice none 0 0]) (by simp)).setAt (i := 1) (v := .slice pA1 pn1 pc1) (ds := #[.slice pA0 pn0 pc0, .slice pA1 pn1 pc1, .slice none 0 0, .slice none 0 0, .slice none 0 0, .slice none 0 0]) (by simp)).setAt (i := 2) (v := .slice qA0 qn0 qc0) (ds := #[.slice pA0 pn0 pc0, .slice pA1 pn1 pc1, .slice qA0 qn0 qc0, .slice none 0 0, .slice none 0 0, .slice none 0 0]) (by simp)).setAt (i := 3) (v := .slice qA1 qn1 qc1) (ds := #[.slice pA0 pn0 pc0, .slice pA1 pn1 pc1, .slice qA0 qn0 qc0, .slice qA1 qn1 qc1, .slice none 0 0, .slice none 0 0]) (by simp)).setAt (i := 4) (v := .slice uA0 un0 uc0) (ds := #[.slice pA0 pn0 pc0, .slice pA1 pn1 pc1, .slice qA0 qn0 qc0, .slice qA1 qn1 qc1, .slice uA0 un0 uc0, .slice none 0 0]) (by simp)).setAt (i := 5) (v := .slice uA1 un1 uc1) (ds := #[.slice pA0 pn0 pc0, .slice pA1 pn1 pc1, .slice qA0 qn0 qc0, .slice qA1 qn1 qc1, .slice uA0 un0 uc0, .slice uA1 un1 uc1]) (by simp)))
        clear xr; have xr := xr_; clear xr_
        (try clear b14)
        (try clear B13)
        clear hw14 hK
        intro hS
        (try simp only [Act.put, layA, layB, layC])
        refine on 3 ?_
        obtain ⟨cxq_0, cxq_1, fxq_0, fxq_1⟩ := xq.two
        refine skipH (by go_simp; (first | done | with_reducible rfl | exact ⟨rfl, rfl⟩)) ?_ (fun hS_ => ?_)
        · generalize hwz : World.setCell _ _ _ = wz
          have hK : ∀ k, k ≠ w.heap.size + 1 + 1 + 1 → wz.heap[k]? = w14.heap[k]? := by
            intro k h0; rw [← hwz]
            refine (Below.heap_setCell _ _ _ _ (by exact h0)).trans ?_
            refine (Below.heap_setCell _ _ _ _ (by exact h0)).trans ?_
            rfl
          have z_xo : Box wz (w2.heap.size) #[.slice pA0 pn0 pc0, .slice pA1 pn1 pc1, .slice qA0 qn0 qc0, .slice qA1 qn1 qc1, .slice uA0 un0 uc0, .slice uA1 un1 uc1] 68 := (hK _ (by omega)).trans xo
          have z_xt : Box wz (w.heap.size + 1) #[.int .i64 tI0, .int .i64 (T5)] 40 := (hK _ (by omega)).trans xt
          exact ⟨z_xo.six.1, z_xo.six.2.1, z_xo.six.2.2.1, z_xo.six.2.2.2.1, z_xo.six.2.2.2.2.1, z_xo.six.2.2.2.2.2.1, z_xt.two.1, z_xt.two.2.1⟩
        clear cxq_0 cxq_1 fxq_0 fxq_1
        clear hS
        have hS := hS_
        clear hS_
        (try simp only [Act.put, layA, layB, layC])
        clear hS
        refine wpAnyH_done (by kernel_rfl) ?_ _
        obtain ⟨cxr_0, cxr_1, cxr_2, cxr_3, cxr_4, cxr_5, fxr_0, fxr_1, fxr_2, fxr_3, fxr_4, fxr_5⟩ := xr.six
        have l_xr_0 : w.heap.size + 1 + 1 < w14.heap.size := by omega
        obtain ⟨cxq_0, cxq_1, fxq_0, fxq_1⟩ := xq.two
        have l_xq_0 : w.heap.size + 1 + 1 + 1 < w14.heap.size := by omega
        go_wp2
        refine bodyPost_ret (v := .tuple #[.agg #[.slice pA0 pn0 pc0, .slice pA1 pn1 pc1, .slice qA0 qn0 qc0, .slice qA1 qn1 qc1, .slice uA0 un0 uc0, .slice uA1 un1 uc1], .agg #[.int .i64 tI0, .int .i64 T5]]) ?_ rfl ⟨_, _, _, _, _, _, _, _, _, _, _, _, _, _, _, _, _, _, by rw [mT_yes HO.out, hT5], ?_, ?_⟩
        · simp [results, Try.results84, go_sem, cxr_0, cxr_1, cxr_2, cxr_3, cxr_4, cxr_5, fxr_0, fxr_1, fxr_2, fxr_3, fxr_4, fxr_5, l_xr_0, cxq_0, cxq_1, fxq_0, fxq_1, l_xq_0]
        · have R := (OwnL.then (OwnL.then rp rq (by omega)) ru (by omega))
          simp only [List.cons_append, List.nil_append] at R
          rw [mAS_yes HO.out, mAM_yes HO.out, mBS_yes HO.out, mBM_yes HO.out, mCS_yes HO.out, mCM_yes HO.out, hD0, hD1, hD2, hD3, hD4, hD5]; exact OwnL.mono ((R.setBox (by omega)).setBox (by omega)) (by omega) (by first | omega | (simp [size_drew]; done) | (simp [size_drew]; omega)) (Nat.le_refl _)
        · repeat (with_reducible (first | assumption | exact Below.refl _ _ | refine Below.alloc ?_ (by first | omega | (simp; done) | (simp; omega)) _ | refine Below.setCell ?_ (by first | omega | (simp; done) | (simp; omega)) _ | refine Below.drew ?_ | refine below_drewN ?_ _))
end Go.Proofs.Ytllnnbmgdbinnaa

/- Contracts of KeysNew. Printed by mac2.py. -/
import Derived.Test.YtllnnbmgdbinnaaRegB
import Derived.Test.YtllnnbmgdbinnaaMacMath
import Derived.Test.YtllnnbmgdbinnaaMac2
namespace Go.Proofs.Ytllnnbmgdbinnaa
set_option linter.unusedSimpArgs false
set_option linter.unusedVariables false
open Go.RowKit
section
variable {p n s a : Int}
theorem kP_yes (h : kOk p n s a = true) : kP p n s a = p := by simp [kP, h]
theorem kL_yes (h : kOk p n s a = true) : kL p n s a = tapeL s a p n := by simp [kL, h]
theorem kT_yes (h : kOk p n s a = true) : kT p n s a = tapeLN s a p n := by simp [kT, h]
theorem kP_no (h : kOk p n s a = false) : kP p n s a = 0 := by simp [kP, h]
theorem kL_no (h : kOk p n s a = false) : kL p n s a = [] := by simp [kL, h]
theorem kT_no (h : kOk p n s a = false) : kT p n s a = a := by simp [kT, h]
end
set_option maxRecDepth 100000 in
set_option maxHeartbeats 2000000 in
theorem sKeysNew_L  {w : World} (pI0 : Int) (nI0 : Int) (tI0 : Int) (tI1 : Int) :
    Calls Try.prog 46 #[.int .i64 pI0, .int .i64 nI0, .agg #[.int .i64 tI0, .int .i64 tI1]] w fun e w' => ∃ rA1 rn1 rc1, e = .returned (.tuple #[.agg #[.int .i64 (kP pI0 nI0 tI0 tI1), .slice rA1 rn1 rc1], .agg #[.int .i64 tI0, .int .i64 (kT pI0 nI0 tI0 tI1)], .bool (kOk pI0 nI0 tI0 tI1)]) ∧ OwnL w' w.heap.size w'.heap.size [(.slice rA1 rn1 rc1, .ints (kL pI0 nI0 tI0 tI1))] ∧ Below w.heap.size w w' := by
  cases k1 : fOk pI0 with
  | false =>
    have HO : Hid (kOk pI0 nI0 tI0 tI1 = false) := by show _ = _; simp [kOk, k1]
    go_enter Try.func46, Try.ntmps46
    go_wp2_with fail
    generalize hw1 : World.alloc _ _ = w1
    have z1 : w.heap.size + 1 + 1 + 1 ≤ w1.heap.size := by rw [← hw1]; simp
    have B1 : Below w.heap.size w w1 := by rw [← hw1]; repeat (with_reducible (first | assumption | exact Below.refl _ _ | refine Below.alloc ?_ (by first | omega | (simp; done) | (simp; omega)) _ | refine Below.setCell ?_ (by first | omega | (simp; done) | (simp; omega)) _ | refine Below.drew ?_ | refine below_drewN ?_ _))
    have xt_ : Box w1 (w.heap.size) #[.int .i64 tI0, .int .i64 tI1] 40 := (by rw [← hw1]; exact (((Box.new (g := w.heap.size) _ #[.int .i64 tI0, .int .i64 tI1] 40 (by simp)).alloc _).alloc _))
    have xt := xt_; clear xt_
    have xr_ : Box w1 (w.heap.size + 1) #[.int .i64 0, .slice none 0 0] 33 := (by rw [← hw1]; exact ((Box.new (g := w.heap.size + 1) _ #[.int .i64 0, .slice none 0 0] 33 (by simp)).alloc _))
    have xr := xr_; clear xr_
    have xq_ : Box w1 (w.heap.size + 1 + 1) #[.int .i64 0, .int .i64 0] 40 := (by rw [← hw1]; exact (Box.new (g := w.heap.size + 1 + 1) _ #[.int .i64 0, .int .i64 0] 40 (by simp)))
    have xq := xq_; clear xq_
    clear hw1
    refine (sFieldOk_any _ _).mono ?_
    rintro e w_ ⟨rfl, rfl⟩
    obtain ⟨cxt_0, cxt_1, fxt_0, fxt_1⟩ := xt.two
    have l_xt_0 : w.heap.size < w1.heap.size := by omega
    go_wp2_with fail
    clear cxt_0 cxt_1 fxt_0 fxt_1 l_xt_0
    refine wp_region_held_drew (S := fun W => W.cell? ⟨w.heap.size, 0, none⟩ = some (.int .i64 tI0) ∧ W.cell? ⟨w.heap.size, 1, none⟩ = some (.int .i64 tI1)) (by kernel_rfl) ⟨xt.drew.two.1, xt.drew.two.2.1⟩ (fun hS => ?_)
    (refine tk 0 hS ?_; (try simp only [Act.put, layA, layB, layC]))
    (refine tk 1 hS ?_; (try simp only [Act.put, layA, layB, layC]))
    refine on 2 ?_
    obtain ⟨cxr_0, cxr_1, fxr_0, fxr_1⟩ := xr.two
    refine skipH (by go_simp; (first | done | with_reducible rfl | exact ⟨rfl, rfl⟩)) ?_ (fun hS_ => ?_)
    · exact ⟨((xt.far (by omega)).far (by omega)).drew.two.1, ((xt.far (by omega)).far (by omega)).drew.two.2.1⟩
    clear cxr_0 cxr_1 fxr_0 fxr_1
    clear hS
    have hS := hS_
    clear hS_
    (try simp only [Act.put, layA, layB, layC])
    refine on 3 ?_
    obtain ⟨cxq_0, cxq_1, fxq_0, fxq_1⟩ := xq.two
    refine skipH (by go_simp; (first | done | with_reducible rfl | exact ⟨rfl, rfl⟩)) ?_ (fun hS_ => ?_)
    · exact ⟨((((xt.far (by omega)).far (by omega)).far (by omega)).far (by omega)).drew.two.1, ((((xt.far (by omega)).far (by omega)).far (by omega)).far (by omega)).drew.two.2.1⟩
    clear cxq_0 cxq_1 fxq_0 fxq_1
    clear hS
    have hS := hS_
    clear hS_
    (try simp only [Act.put, layA, layB, layC])
    (refine tk 4 hS ?_; (try simp only [Act.put, layA, layB, layC]))
    clear hS
    refine wpAnyH_done (by kernel_rfl) ?_ _
    obtain ⟨cxr_0, cxr_1, fxr_0, fxr_1⟩ := xr.two
    have l_xr_0 : w.heap.size + 1 < w1.heap.size := by omega
    obtain ⟨cxq_0, cxq_1, fxq_0, fxq_1⟩ := xq.two
    have l_xq_0 : w.heap.size + 1 + 1 < w1.heap.size := by omega
    go_wp2
    refine bodyPost_ret (v := .tuple #[.agg #[.int .i64 0, .slice none 0 0], .agg #[.int .i64 tI0, .int .i64 tI1], .bool false]) ?_ rfl ⟨none, 0, 0, by rw [kP_no HO.out, kT_no HO.out, HO.out], ?_, ?_⟩
    · simp [results, Try.results46, go_sem, cxr_0, cxr_1, fxr_0, fxr_1, l_xr_0, cxq_0, cxq_1, fxq_0, fxq_1, l_xq_0]
    · rw [kL_no HO.out]; exact OwnL.nones _ (by simp) (by first | omega | (simp [size_drew]; done) | (simp [size_drew]; omega))
    · repeat (with_reducible (first | assumption | exact Below.refl _ _ | refine Below.alloc ?_ (by first | omega | (simp; done) | (simp; omega)) _ | refine Below.setCell ?_ (by first | omega | (simp; done) | (simp; omega)) _ | refine Below.drew ?_ | refine below_drewN ?_ _))
  | true =>
    cases k2 : inB nI0 1 5 with
    | false =>
      have HO : Hid (kOk pI0 nI0 tI0 tI1 = false) := by show _ = _; simp [kOk, k1, k2]
      go_enter Try.func46, Try.ntmps46
      go_wp2_with fail
      generalize hw1 : World.alloc _ _ = w1
      have z1 : w.heap.size + 1 + 1 + 1 ≤ w1.heap.size := by rw [← hw1]; simp
      have B1 : Below w.heap.size w w1 := by rw [← hw1]; repeat (with_reducible (first | assumption | exact Below.refl _ _ | refine Below.alloc ?_ (by first | omega | (simp; done) | (simp; omega)) _ | refine Below.setCell ?_ (by first | omega | (simp; done) | (simp; omega)) _ | refine Below.drew ?_ | refine below_drewN ?_ _))
      have xt_ : Box w1 (w.heap.size) #[.int .i64 tI0, .int .i64 tI1] 40 := (by rw [← hw1]; exact (((Box.new (g := w.heap.size) _ #[.int .i64 tI0, .int .i64 tI1] 40 (by simp)).alloc _).alloc _))
      have xt := xt_; clear xt_
      have xr_ : Box w1 (w.heap.size + 1) #[.int .i64 0, .slice none 0 0] 33 := (by rw [← hw1]; exact ((Box.new (g := w.heap.size + 1) _ #[.int .i64 0, .slice none 0 0] 33 (by simp)).alloc _))
      have xr := xr_; clear xr_
      have xq_ : Box w1 (w.heap.size + 1 + 1) #[.int .i64 0, .int .i64 0] 40 := (by rw [← hw1]; exact (Box.new (g := w.heap.size + 1 + 1) _ #[.int .i64 0, .int .i64 0] 40 (by simp)))
      have xq := xq_; clear xq_
      clear hw1
      refine (sFieldOk_any _ _).mono ?_
      rintro e w_ ⟨rfl, rfl⟩
      obtain ⟨cxt_0, cxt_1, fxt_0, fxt_1⟩ := xt.two
      have l_xt_0 : w.heap.size < w1.heap.size := by omega
      go_wp2_with (first | (go_at_call 93; refine (l01In_any _ _ _ _).mono ?_; rintro e w' ⟨rfl, rfl⟩))
      clear cxt_0 cxt_1 fxt_0 fxt_1 l_xt_0
      refine wp_region_held_drew (S := fun W => W.cell? ⟨w.heap.size, 0, none⟩ = some (.int .i64 tI0) ∧ W.cell? ⟨w.heap.size, 1, none⟩ = some (.int .i64 tI1)) (by kernel_rfl) ⟨xt.drew.two.1, xt.drew.two.2.1⟩ (fun hS => ?_)
      (refine tk 0 hS ?_; (try simp only [Act.put, layA, layB, layC]))
      (refine tk 1 hS ?_; (try simp only [Act.put, layA, layB, layC]))
      refine on 2 ?_
      obtain ⟨cxr_0, cxr_1, fxr_0, fxr_1⟩ := xr.two
      refine skipH (by go_simp; (first | done | with_reducible rfl | exact ⟨rfl, rfl⟩)) ?_ (fun hS_ => ?_)
      · exact ⟨((xt.far (by omega)).far (by omega)).drew.two.1, ((xt.far (by omega)).far (by omega)).drew.two.2.1⟩
      clear cxr_0 cxr_1 fxr_0 fxr_1
      clear hS
      have hS := hS_
      clear hS_
      (try simp only [Act.put, layA, layB, layC])
      refine on 3 ?_
      obtain ⟨cxq_0, cxq_1, fxq_0, fxq_1⟩ := xq.two
      refine skipH (by go_simp; (first | done | with_reducible rfl | exact ⟨rfl, rfl⟩)) ?_ (fun hS_ => ?_)
      · exact ⟨((((xt.far (by omega)).far (by omega)).far (by omega)).far (by omega)).drew.two.1, ((((xt.far (by omega)).far (by omega)).far (by omega)).far (by omega)).drew.two.2.1⟩
      clear cxq_0 cxq_1 fxq_0 fxq_1
      clear hS
      have hS := hS_
      clear hS_
      (try simp only [Act.put, layA, layB, layC])
      (refine tk 4 hS ?_; (try simp only [Act.put, layA, layB, layC]))
      clear hS
      refine wpAnyH_done (by kernel_rfl) ?_ _
      obtain ⟨cxr_0, cxr_1, fxr_0, fxr_1⟩ := xr.two
      have l_xr_0 : w.heap.size + 1 < w1.heap.size := by omega
      obtain ⟨cxq_0, cxq_1, fxq_0, fxq_1⟩ := xq.two
      have l_xq_0 : w.heap.size + 1 + 1 < w1.heap.size := by omega
      go_wp2
      refine bodyPost_ret (v := .tuple #[.agg #[.int .i64 0, .slice none 0 0], .agg #[.int .i64 tI0, .int .i64 tI1], .bool false]) ?_ rfl ⟨none, 0, 0, by rw [kP_no HO.out, kT_no HO.out, HO.out], ?_, ?_⟩
      · simp [results, Try.results46, go_sem, cxr_0, cxr_1, fxr_0, fxr_1, l_xr_0, cxq_0, cxq_1, fxq_0, fxq_1, l_xq_0]
      · rw [kL_no HO.out]; exact OwnL.nones _ (by simp) (by first | omega | (simp [size_drew]; done) | (simp [size_drew]; omega))
      · repeat (with_reducible (first | assumption | exact Below.refl _ _ | refine Below.alloc ?_ (by first | omega | (simp; done) | (simp; omega)) _ | refine Below.setCell ?_ (by first | omega | (simp; done) | (simp; omega)) _ | refine Below.drew ?_ | refine below_drewN ?_ _))
    | true =>
      cases k3 : t9 tI0 tI1 with
      | false =>
        have HO : Hid (kOk pI0 nI0 tI0 tI1 = false) := by show _ = _; simp [kOk, k1, k2, k3]
        have k3' : (tapeOk tI0 tI1 && decide (tI1 ≤ 900000)) = false := k3
        go_enter Try.func46, Try.ntmps46
        go_wp2_with fail
        generalize hw1 : World.alloc _ _ = w1
        have z1 : w.heap.size + 1 + 1 + 1 ≤ w1.heap.size := by rw [← hw1]; simp
        have B1 : Below w.heap.size w w1 := by rw [← hw1]; repeat (with_reducible (first | assumption | exact Below.refl _ _ | refine Below.alloc ?_ (by first | omega | (simp; done) | (simp; omega)) _ | refine Below.setCell ?_ (by first | omega | (simp; done) | (simp; omega)) _ | refine Below.drew ?_ | refine below_drewN ?_ _))
        have xt_ : Box w1 (w.heap.size) #[.int .i64 tI0, .int .i64 tI1] 40 := (by rw [← hw1]; exact (((Box.new (g := w.heap.size) _ #[.int .i64 tI0, .int .i64 tI1] 40 (by simp)).alloc _).alloc _))
        have xt := xt_; clear xt_
        have xr_ : Box w1 (w.heap.size + 1) #[.int .i64 0, .slice none 0 0] 33 := (by rw [← hw1]; exact ((Box.new (g := w.heap.size + 1) _ #[.int .i64 0, .slice none 0 0] 33 (by simp)).alloc _))
        have xr := xr_; clear xr_
        have xq_ : Box w1 (w.heap.size + 1 + 1) #[.int .i64 0, .int .i64 0] 40 := (by rw [← hw1]; exact (Box.new (g := w.heap.size + 1 + 1) _ #[.int .i64 0, .int .i64 0] 40 (by simp)))
        have xq := xq_; clear xq_
        clear hw1
        refine (sFieldOk_any _ _).mono ?_
        rintro e w_ ⟨rfl, rfl⟩
        obtain ⟨cxt_0, cxt_1, fxt_0, fxt_1⟩ := xt.two
        have l_xt_0 : w.heap.size < w1.heap.size := by omega
        go_wp2_with (first | (go_at_call 93; refine (l01In_any _ _ _ _).mono ?_; rintro e w' ⟨rfl, rfl⟩))
        refine (l06Tape_any tI0 tI1 _).mono ?_
        rintro e w2 ⟨rfl, b2⟩
        clear cxt_0 cxt_1 fxt_0 fxt_1 l_xt_0
        have z2 := b2.size
        try simp only [World.size_alloc, World.size_setCell, size_drew] at z2
        have B2 : Below w.heap.size w w2 := Below.t b2
        have xt_ : Box w2 (w.heap.size) #[.int .i64 tI0, .int .i64 tI1] 40 := xt.below b2 (by first | omega | (simp [size_drew]; done) | (simp [size_drew]; omega))
        clear xt; have xt := xt_; clear xt_
        have xr_ : Box w2 (w.heap.size + 1) #[.int .i64 0, .slice none 0 0] 33 := xr.below b2 (by first | omega | (simp [size_drew]; done) | (simp [size_drew]; omega))
        clear xr; have xr := xr_; clear xr_
        have xq_ : Box w2 (w.heap.size + 1 + 1) #[.int .i64 0, .int .i64 0] 40 := xq.below b2 (by first | omega | (simp [size_drew]; done) | (simp [size_drew]; omega))
        clear xq; have xq := xq_; clear xq_
        obtain ⟨cxt_0, cxt_1, fxt_0, fxt_1⟩ := xt.two
        have l_xt_0 : w.heap.size < w2.heap.size := by omega
        go_wp2_with fail
        clear cxt_0 cxt_1 fxt_0 fxt_1 l_xt_0
        refine wp_region_held_drew (S := fun W => W.cell? ⟨w.heap.size, 0, none⟩ = some (.int .i64 tI0) ∧ W.cell? ⟨w.heap.size, 1, none⟩ = some (.int .i64 tI1)) (by kernel_rfl) ⟨xt.drew.two.1, xt.drew.two.2.1⟩ (fun hS => ?_)
        (refine tk 0 hS ?_; (try simp only [Act.put, layA, layB, layC]))
        (refine tk 1 hS ?_; (try simp only [Act.put, layA, layB, layC]))
        refine on 2 ?_
        obtain ⟨cxr_0, cxr_1, fxr_0, fxr_1⟩ := xr.two
        refine skipH (by go_simp; (first | done | with_reducible rfl | exact ⟨rfl, rfl⟩)) ?_ (fun hS_ => ?_)
        · exact ⟨((xt.far (by omega)).far (by omega)).drew.two.1, ((xt.far (by omega)).far (by omega)).drew.two.2.1⟩
        clear cxr_0 cxr_1 fxr_0 fxr_1
        clear hS
        have hS := hS_
        clear hS_
        (try simp only [Act.put, layA, layB, layC])
        refine on 3 ?_
        obtain ⟨cxq_0, cxq_1, fxq_0, fxq_1⟩ := xq.two
        refine skipH (by go_simp; (first | done | with_reducible rfl | exact ⟨rfl, rfl⟩)) ?_ (fun hS_ => ?_)
        · exact ⟨((((xt.far (by omega)).far (by omega)).far (by omega)).far (by omega)).drew.two.1, ((((xt.far (by omega)).far (by omega)).far (by omega)).far (by omega)).drew.two.2.1⟩
        clear cxq_0 cxq_1 fxq_0 fxq_1
        clear hS
        have hS := hS_
        clear hS_
        (try simp only [Act.put, layA, layB, layC])
        (refine tk 4 hS ?_; (try simp only [Act.put, layA, layB, layC]))
        clear hS
        refine wpAnyH_done (by kernel_rfl) ?_ _
        obtain ⟨cxr_0, cxr_1, fxr_0, fxr_1⟩ := xr.two
        have l_xr_0 : w.heap.size + 1 < w2.heap.size := by omega
        obtain ⟨cxq_0, cxq_1, fxq_0, fxq_1⟩ := xq.two
        have l_xq_0 : w.heap.size + 1 + 1 < w2.heap.size := by omega
        go_wp2
        refine bodyPost_ret (v := .tuple #[.agg #[.int .i64 0, .slice none 0 0], .agg #[.int .i64 tI0, .int .i64 tI1], .bool false]) ?_ rfl ⟨none, 0, 0, by rw [kP_no HO.out, kT_no HO.out, HO.out], ?_, ?_⟩
        · simp [results, Try.results46, go_sem, cxr_0, cxr_1, fxr_0, fxr_1, l_xr_0, cxq_0, cxq_1, fxq_0, fxq_1, l_xq_0]
        · rw [kL_no HO.out]; exact OwnL.nones _ (by simp) (by first | omega | (simp [size_drew]; done) | (simp [size_drew]; omega))
        · repeat (with_reducible (first | assumption | exact Below.refl _ _ | refine Below.alloc ?_ (by first | omega | (simp; done) | (simp; omega)) _ | refine Below.setCell ?_ (by first | omega | (simp; done) | (simp; omega)) _ | refine Below.drew ?_ | refine below_drewN ?_ _))
      | true =>
        have HO : Hid (kOk pI0 nI0 tI0 tI1 = true) := by show _ = _; simp [kOk, k1, k2, k3]
        have k3' : (tapeOk tI0 tI1 && decide (tI1 ≤ 900000)) = true := k3
        go_enter Try.func46, Try.ntmps46
        go_wp2_with fail
        generalize hw1 : World.alloc _ _ = w1
        have z1 : w.heap.size + 1 + 1 + 1 ≤ w1.heap.size := by rw [← hw1]; simp
        have B1 : Below w.heap.size w w1 := by rw [← hw1]; repeat (with_reducible (first | assumption | exact Below.refl _ _ | refine Below.alloc ?_ (by first | omega | (simp; done) | (simp; omega)) _ | refine Below.setCell ?_ (by first | omega | (simp; done) | (simp; omega)) _ | refine Below.drew ?_ | refine below_drewN ?_ _))
        have xt_ : Box w1 (w.heap.size) #[.int .i64 tI0, .int .i64 tI1] 40 := (by rw [← hw1]; exact (((Box.new (g := w.heap.size) _ #[.int .i64 tI0, .int .i64 tI1] 40 (by simp)).alloc _).alloc _))
        have xt := xt_; clear xt_
        have xr_ : Box w1 (w.heap.size + 1) #[.int .i64 0, .slice none 0 0] 33 := (by rw [← hw1]; exact ((Box.new (g := w.heap.size + 1) _ #[.int .i64 0, .slice none 0 0] 33 (by simp)).alloc _))
        have xr := xr_; clear xr_
        have xq_ : Box w1 (w.heap.size + 1 + 1) #[.int .i64 0, .int .i64 0] 40 := (by rw [← hw1]; exact (Box.new (g := w.heap.size + 1 + 1) _ #[.int .i64 0, .int .i64 0] 40 (by simp)))
        have xq := xq_; clear xq_
        clear hw1
        refine (sFieldOk_any _ _).mono ?_
        rintro e w_ ⟨rfl, rfl⟩
        obtain ⟨cxt_0, cxt_1, fxt_0, fxt_1⟩ := xt.two
        have l_xt_0 : w.heap.size < w1.heap.size := by omega
        go_wp2_with (first | (go_at_call 93; refine (l01In_any _ _ _ _).mono ?_; rintro e w' ⟨rfl, rfl⟩))
        refine (l06Tape_any tI0 tI1 _).mono ?_
        rintro e w2 ⟨rfl, b2⟩
        clear cxt_0 cxt_1 fxt_0 fxt_1 l_xt_0
        have z2 := b2.size
        try simp only [World.size_alloc, World.size_setCell, size_drew] at z2
        have B2 : Below w.heap.size w w2 := Below.t b2
        have xt_ : Box w2 (w.heap.size) #[.int .i64 tI0, .int .i64 tI1] 40 := xt.below b2 (by first | omega | (simp [size_drew]; done) | (simp [size_drew]; omega))
        clear xt; have xt := xt_; clear xt_
        have xr_ : Box w2 (w.heap.size + 1) #[.int .i64 0, .slice none 0 0] 33 := xr.below b2 (by first | omega | (simp [size_drew]; done) | (simp [size_drew]; omega))
        clear xr; have xr := xr_; clear xr_
        have xq_ : Box w2 (w.heap.size + 1 + 1) #[.int .i64 0, .int .i64 0] 40 := xq.below b2 (by first | omega | (simp [size_drew]; done) | (simp [size_drew]; omega))
        clear xq; have xq := xq_; clear xq_
        obtain ⟨cxt_0, cxt_1, fxt_0, fxt_1⟩ := xt.two
        have l_xt_0 : w.heap.size < w2.heap.size := by omega
        go_wp2_with fail
        refine (sTapeList_L tI0 tI1 pI0 nI0).mono ?_
        rintro e w3 ⟨pA, pn, pc, rfl, r0, b3⟩
        clear cxt_0 cxt_1 fxt_0 fxt_1 l_xt_0
        have z3 := b3.size
        try simp only [World.size_alloc, World.size_setCell, size_drew] at z3
        have B3 : Below w.heap.size w w3 := Below.t b3
        have xt_ : Box w3 (w.heap.size) #[.int .i64 tI0, .int .i64 tI1] 40 := xt.below b3 (by first | omega | (simp [size_drew]; done) | (simp [size_drew]; omega))
        clear xt; have xt := xt_; clear xt_
        have xr_ : Box w3 (w.heap.size + 1) #[.int .i64 0, .slice none 0 0] 33 := xr.below b3 (by first | omega | (simp [size_drew]; done) | (simp [size_drew]; omega))
        clear xr; have xr := xr_; clear xr_
        have xq_ : Box w3 (w.heap.size + 1 + 1) #[.int .i64 0, .int .i64 0] 40 := xq.below b3 (by first | omega | (simp [size_drew]; done) | (simp [size_drew]; omega))
        clear xq; have xq := xq_; clear xq_
        try simp only [World.size_alloc, World.size_setCell, size_drew] at r0
        go_wp2_with fail
        generalize hw4 : World.alloc _ _ = w4
        have z4 : w3.heap.size + 1 ≤ w4.heap.size := by rw [← hw4]; simp
        have B4 : Below w.heap.size w w4 := by rw [← hw4]; repeat (with_reducible (first | assumption | exact Below.refl _ _ | refine Below.alloc ?_ (by first | omega | (simp; done) | (simp; omega)) _ | refine Below.setCell ?_ (by first | omega | (simp; done) | (simp; omega)) _ | refine Below.drew ?_ | refine below_drewN ?_ _))
        have hK : ∀ k, k < w3.heap.size → w4.heap[k]? = w3.heap[k]? := by
          intro k hk; rw [← hw4]
          repeat (first | rfl | refine (Below.heap_alloc _ _ _ (by first | omega | (simp; omega))).trans ?_)
        have r0_ := r0.keepBlock (w' := w4) (by omega) (fun k h1 h2 => hK k  (by have := r0.2.1; omega))
        clear r0; have r0 := r0_; clear r0_
        have xt_ : Box w4 (w.heap.size) #[.int .i64 tI0, .int .i64 tI1] 40 := (by rw [← hw4]; exact (xt.alloc _))
        clear xt; have xt := xt_; clear xt_
        have xr_ : Box w4 (w.heap.size + 1) #[.int .i64 0, .slice none 0 0] 33 := (by rw [← hw4]; exact (xr.alloc _))
        clear xr; have xr := xr_; clear xr_
        have xq_ : Box w4 (w.heap.size + 1 + 1) #[.int .i64 0, .int .i64 0] 40 := (by rw [← hw4]; exact (xq.alloc _))
        clear xq; have xq := xq_; clear xq_
        have xn_ : Box w4 (w3.heap.size) #[.int .i64 tI0, .int .i64 (tapeLN tI0 tI1 pI0 nI0)] 40 := (by rw [← hw4]; exact (Box.new (g := w3.heap.size) _ #[.int .i64 tI0, .int .i64 (tapeLN tI0 tI1 pI0 nI0)] 40 (by simp)))
        have xn := xn_; clear xn_
        clear hw4 hK
        refine wp_region_held_drew (S := fun W => W.cell? ⟨w3.heap.size, 0, none⟩ = some (.int .i64 tI0) ∧ W.cell? ⟨w3.heap.size, 1, none⟩ = some (.int .i64 (tapeLN tI0 tI1 pI0 nI0))) (by kernel_rfl) ⟨xn.drew.two.1, xn.drew.two.2.1⟩ (fun hS => ?_)
        (refine tk 0 hS ?_; (try simp only [Act.put, layA, layB, layC]))
        (refine tk 1 hS ?_; (try simp only [Act.put, layA, layB, layC]))
        (refine tk 2 hS ?_; (try simp only [Act.put, layA, layB, layC]))
        (refine tk 3 hS ?_; (try simp only [Act.put, layA, layB, layC]))
        refine on 4 ?_
        obtain ⟨cxr_0, cxr_1, fxr_0, fxr_1⟩ := xr.two
        refine skipH (by go_simp; (first | done | with_reducible rfl | exact ⟨rfl, rfl⟩)) ?_ (fun hS_ => ?_)
        · exact ⟨((xn.far (by omega)).far (by omega)).drew.two.1, ((xn.far (by omega)).far (by omega)).drew.two.2.1⟩
        clear cxr_0 cxr_1 fxr_0 fxr_1
        clear hS
        have hS := hS_
        clear hS_
        (try simp only [Act.put, layA, layB, layC])
        refine on 5 ?_
        obtain ⟨cxq_0, cxq_1, fxq_0, fxq_1⟩ := xq.two
        refine skipH (by go_simp; (first | done | with_reducible rfl | exact ⟨rfl, rfl⟩)) ?_ (fun hS_ => ?_)
        · exact ⟨((((xn.far (by omega)).far (by omega)).far (by omega)).far (by omega)).drew.two.1, ((((xn.far (by omega)).far (by omega)).far (by omega)).far (by omega)).drew.two.2.1⟩
        clear cxq_0 cxq_1 fxq_0 fxq_1
        clear hS
        have hS := hS_
        clear hS_
        (try simp only [Act.put, layA, layB, layC])
        (refine tk 6 hS ?_; (try simp only [Act.put, layA, layB, layC]))
        clear hS
        refine wpAnyH_done (by kernel_rfl) ?_ _
        obtain ⟨cxr_0, cxr_1, fxr_0, fxr_1⟩ := xr.two
        have l_xr_0 : w.heap.size + 1 < w4.heap.size := by omega
        obtain ⟨cxq_0, cxq_1, fxq_0, fxq_1⟩ := xq.two
        have l_xq_0 : w.heap.size + 1 + 1 < w4.heap.size := by omega
        go_wp2
        refine bodyPost_ret (v := .tuple #[.agg #[.int .i64 pI0, .slice pA pn pc], .agg #[.int .i64 tI0, .int .i64 (tapeLN tI0 tI1 pI0 nI0)], .bool true]) ?_ rfl ⟨pA, pn, pc, by rw [kP_yes HO.out, kT_yes HO.out, HO.out], ?_, ?_⟩
        · simp [results, Try.results46, go_sem, cxr_0, cxr_1, fxr_0, fxr_1, l_xr_0, cxq_0, cxq_1, fxq_0, fxq_1, l_xq_0]
        · have R := r0
          rw [kL_yes HO.out]; exact OwnL.mono ((((R.setBox (by omega)).setBox (by omega)).setBox (by omega)).setBox (by omega)) (by omega) (by first | omega | (simp [size_drew]; done) | (simp [size_drew]; omega)) (Nat.le_refl _)
        · repeat (with_reducible (first | assumption | exact Below.refl _ _ | refine Below.alloc ?_ (by first | omega | (simp; done) | (simp; omega)) _ | refine Below.setCell ?_ (by first | omega | (simp; done) | (simp; omega)) _ | refine Below.drew ?_ | refine below_drewN ?_ _))
set_option maxRecDepth 100000 in
set_option maxHeartbeats 2000000 in
theorem iKeysNew_L  {w : World} (pI0 : Int) (nI0 : Int) (tI0 : Int) (tI1 : Int) :
    Calls Try.prog 48 #[.int .i64 pI0, .int .i64 nI0, .agg #[.int .i64 tI0, .int .i64 tI1]] w fun e w' => ∃ rA1 rn1 rc1, e = .returned (.tuple #[.agg #[.int .i64 (kP pI0 nI0 tI0 tI1), .slice rA1 rn1 rc1], .agg #[.int .i64 tI0, .int .i64 (kT pI0 nI0 tI0 tI1)], .bool (kOk pI0 nI0 tI0 tI1)]) ∧ OwnL w' w.heap.size w'.heap.size [(.slice rA1 rn1 rc1, .ints (kL pI0 nI0 tI0 tI1))] ∧ Below w.heap.size w w' := by
  cases k1 : fOk pI0 with
  | false =>
    have HO : Hid (kOk pI0 nI0 tI0 tI1 = false) := by show _ = _; simp [kOk, t9, k1]
    go_enter Try.func48, Try.ntmps48
    go_wp2_with fail
    generalize hw1 : World.alloc _ _ = w1
    have z1 : w.heap.size + 1 + 1 + 1 ≤ w1.heap.size := by rw [← hw1]; simp
    have B1 : Below w.heap.size w w1 := by rw [← hw1]; repeat (with_reducible (first | assumption | exact Below.refl _ _ | refine Below.alloc ?_ (by first | omega | (simp; done) | (simp; omega)) _ | refine Below.setCell ?_ (by first | omega | (simp; done) | (simp; omega)) _ | refine Below.drew ?_ | refine below_drewN ?_ _))
    have xt_ : Box w1 (w.heap.size) #[.int .i64 tI0, .int .i64 tI1] 40 := (by rw [← hw1]; exact (((Box.new (g := w.heap.size) _ #[.int .i64 tI0, .int .i64 tI1] 40 (by simp)).alloc _).alloc _))
    have xt := xt_; clear xt_
    have xr_ : Box w1 (w.heap.size + 1) #[.int .i64 0, .slice none 0 0] 33 := (by rw [← hw1]; exact ((Box.new (g := w.heap.size + 1) _ #[.int .i64 0, .slice none 0 0] 33 (by simp)).alloc _))
    have xr := xr_; clear xr_
    have xq_ : Box w1 (w.heap.size + 1 + 1) #[.int .i64 0, .int .i64 0] 40 := (by rw [← hw1]; exact (Box.new (g := w.heap.size + 1 + 1) _ #[.int .i64 0, .int .i64 0] 40 (by simp)))
    have xq := xq_; clear xq_
    clear hw1
    refine (iFieldOk_any _ _).mono ?_
    rintro e w_ ⟨rfl, rfl⟩
    obtain ⟨cxt_0, cxt_1, fxt_0, fxt_1⟩ := xt.two
    have l_xt_0 : w.heap.size < w1.heap.size := by omega
    go_wp2_with fail
    clear cxt_0 cxt_1 fxt_0 fxt_1 l_xt_0
    refine wp_region_held_drew (S := fun W => W.cell? ⟨w.heap.size, 0, none⟩ = some (.int .i64 tI0) ∧ W.cell? ⟨w.heap.size, 1, none⟩ = some (.int .i64 tI1)) (by kernel_rfl) ⟨xt.drew.two.1, xt.drew.two.2.1⟩ (fun hS => ?_)
    (refine tk 0 hS ?_; (try simp only [Act.put, layA, layB, layC]))
    (refine tk 1 hS ?_; (try simp only [Act.put, layA, layB, layC]))
    refine on 2 ?_
    obtain ⟨cxr_0, cxr_1, fxr_0, fxr_1⟩ := xr.two
    refine skipH (by go_simp; (first | done | with_reducible rfl | exact ⟨rfl, rfl⟩)) ?_ (fun hS_ => ?_)
    · exact ⟨((xt.far (by omega)).far (by omega)).drew.two.1, ((xt.far (by omega)).far (by omega)).drew.two.2.1⟩
    clear cxr_0 cxr_1 fxr_0 fxr_1
    clear hS
    have hS := hS_
    clear hS_
    (try simp only [Act.put, layA, layB, layC])
    refine on 3 ?_
    obtain ⟨cxq_0, cxq_1, fxq_0, fxq_1⟩ := xq.two
    refine skipH (by go_simp; (first | done | with_reducible rfl | exact ⟨rfl, rfl⟩)) ?_ (fun hS_ => ?_)
    · exact ⟨((((xt.far (by omega)).far (by omega)).far (by omega)).far (by omega)).drew.two.1, ((((xt.far (by omega)).far (by omega)).far (by omega)).far (by omega)).drew.two.2.1⟩
    clear cxq_0 cxq_1 fxq_0 fxq_1
    clear hS
    have hS := hS_
    clear hS_
    (try simp only [Act.put, layA, layB, layC])
    (refine tk 4 hS ?_; (try simp only [Act.put, layA, layB, layC]))
    clear hS
    refine wpAnyH_done (by kernel_rfl) ?_ _
    obtain ⟨cxr_0, cxr_1, fxr_0, fxr_1⟩ := xr.two
    have l_xr_0 : w.heap.size + 1 < w1.heap.size := by omega
    obtain ⟨cxq_0, cxq_1, fxq_0, fxq_1⟩ := xq.two
    have l_xq_0 : w.heap.size + 1 + 1 < w1.heap.size := by omega
    go_wp2
    refine bodyPost_ret (v := .tuple #[.agg #[.int .i64 0, .slice none 0 0], .agg #[.int .i64 tI0, .int .i64 tI1], .bool false]) ?_ rfl ⟨none, 0, 0, by rw [kP_no HO.out, kT_no HO.out, HO.out], ?_, ?_⟩
    · simp [results, Try.results48, go_sem, cxr_0, cxr_1, fxr_0, fxr_1, l_xr_0, cxq_0, cxq_1, fxq_0, fxq_1, l_xq_0]
    · rw [kL_no HO.out]; exact OwnL.nones _ (by simp) (by first | omega | (simp [size_drew]; done) | (simp [size_drew]; omega))
    · repeat (with_reducible (first | assumption | exact Below.refl _ _ | refine Below.alloc ?_ (by first | omega | (simp; done) | (simp; omega)) _ | refine Below.setCell ?_ (by first | omega | (simp; done) | (simp; omega)) _ | refine Below.drew ?_ | refine below_drewN ?_ _))
  | true =>
    cases k2 : inB nI0 1 5 with
    | false =>
      have HO : Hid (kOk pI0 nI0 tI0 tI1 = false) := by show _ = _; simp [kOk, t9, k1, k2]
      go_enter Try.func48, Try.ntmps48
      go_wp2_with fail
      generalize hw1 : World.alloc _ _ = w1
      have z1 : w.heap.size + 1 + 1 + 1 ≤ w1.heap.size := by rw [← hw1]; simp
      have B1 : Below w.heap.size w w1 := by rw [← hw1]; repeat (with_reducible (first | assumption | exact Below.refl _ _ | refine Below.alloc ?_ (by first | omega | (simp; done) | (simp; omega)) _ | refine Below.setCell ?_ (by first | omega | (simp; done) | (simp; omega)) _ | refine Below.drew ?_ | refine below_drewN ?_ _))
      have xt_ : Box w1 (w.heap.size) #[.int .i64 tI0, .int .i64 tI1] 40 := (by rw [← hw1]; exact (((Box.new (g := w.heap.size) _ #[.int .i64 tI0, .int .i64 tI1] 40 (by simp)).alloc _).alloc _))
      have xt := xt_; clear xt_
      have xr_ : Box w1 (w.heap.size + 1) #[.int .i64 0, .slice none 0 0] 33 := (by rw [← hw1]; exact ((Box.new (g := w.heap.size + 1) _ #[.int .i64 0, .slice none 0 0] 33 (by simp)).alloc _))
      have xr := xr_; clear xr_
      have xq_ : Box w1 (w.heap.size + 1 + 1) #[.int .i64 0, .int .i64 0] 40 := (by rw [← hw1]; exact (Box.new (g := w.heap.size + 1 + 1) _ #[.int .i64 0, .int .i64 0] 40 (by simp)))
      have xq := xq_; clear xq_
      clear hw1
      refine (iFieldOk_any _ _).mono ?_
      rintro e w_ ⟨rfl, rfl⟩
      obtain ⟨cxt_0, cxt_1, fxt_0, fxt_1⟩ := xt.two
      have l_xt_0 : w.heap.size < w1.heap.size := by omega
      go_wp2_with (first | (go_at_call 96; refine (within_any _ _ _ _).mono ?_; rintro e w' ⟨rfl, rfl⟩))
      clear cxt_0 cxt_1 fxt_0 fxt_1 l_xt_0
      refine wp_region_held_drew (S := fun W => W.cell? ⟨w.heap.size, 0, none⟩ = some (.int .i64 tI0) ∧ W.cell? ⟨w.heap.size, 1, none⟩ = some (.int .i64 tI1)) (by kernel_rfl) ⟨xt.drew.two.1, xt.drew.two.2.1⟩ (fun hS => ?_)
      (refine tk 0 hS ?_; (try simp only [Act.put, layA, layB, layC]))
      (refine tk 1 hS ?_; (try simp only [Act.put, layA, layB, layC]))
      refine on 2 ?_
      obtain ⟨cxr_0, cxr_1, fxr_0, fxr_1⟩ := xr.two
      refine skipH (by go_simp; (first | done | with_reducible rfl | exact ⟨rfl, rfl⟩)) ?_ (fun hS_ => ?_)
      · exact ⟨((xt.far (by omega)).far (by omega)).drew.two.1, ((xt.far (by omega)).far (by omega)).drew.two.2.1⟩
      clear cxr_0 cxr_1 fxr_0 fxr_1
      clear hS
      have hS := hS_
      clear hS_
      (try simp only [Act.put, layA, layB, layC])
      refine on 3 ?_
      obtain ⟨cxq_0, cxq_1, fxq_0, fxq_1⟩ := xq.two
      refine skipH (by go_simp; (first | done | with_reducible rfl | exact ⟨rfl, rfl⟩)) ?_ (fun hS_ => ?_)
      · exact ⟨((((xt.far (by omega)).far (by omega)).far (by omega)).far (by omega)).drew.two.1, ((((xt.far (by omega)).far (by omega)).far (by omega)).far (by omega)).drew.two.2.1⟩
      clear cxq_0 cxq_1 fxq_0 fxq_1
      clear hS
      have hS := hS_
      clear hS_
      (try simp only [Act.put, layA, layB, layC])
      (refine tk 4 hS ?_; (try simp only [Act.put, layA, layB, layC]))
      clear hS
      refine wpAnyH_done (by kernel_rfl) ?_ _
      obtain ⟨cxr_0, cxr_1, fxr_0, fxr_1⟩ := xr.two
      have l_xr_0 : w.heap.size + 1 < w1.heap.size := by omega
      obtain ⟨cxq_0, cxq_1, fxq_0, fxq_1⟩ := xq.two
      have l_xq_0 : w.heap.size + 1 + 1 < w1.heap.size := by omega
      go_wp2
      refine bodyPost_ret (v := .tuple #[.agg #[.int .i64 0, .slice none 0 0], .agg #[.int .i64 tI0, .int .i64 tI1], .bool false]) ?_ rfl ⟨none, 0, 0, by rw [kP_no HO.out, kT_no HO.out, HO.out], ?_, ?_⟩
      · simp [results, Try.results48, go_sem, cxr_0, cxr_1, fxr_0, fxr_1, l_xr_0, cxq_0, cxq_1, fxq_0, fxq_1, l_xq_0]
      · rw [kL_no HO.out]; exact OwnL.nones _ (by simp) (by first | omega | (simp [size_drew]; done) | (simp [size_drew]; omega))
      · repeat (with_reducible (first | assumption | exact Below.refl _ _ | refine Below.alloc ?_ (by first | omega | (simp; done) | (simp; omega)) _ | refine Below.setCell ?_ (by first | omega | (simp; done) | (simp; omega)) _ | refine Below.drew ?_ | refine below_drewN ?_ _))
    | true =>
      cases k3 : tapeOk tI0 tI1 with
      | false =>
        have HO : Hid (kOk pI0 nI0 tI0 tI1 = false) := by show _ = _; simp [kOk, t9, k1, k2, k3]
        go_enter Try.func48, Try.ntmps48
        go_wp2_with fail
        generalize hw1 : World.alloc _ _ = w1
        have z1 : w.heap.size + 1 + 1 + 1 ≤ w1.heap.size := by rw [← hw1]; simp
        have B1 : Below w.heap.size w w1 := by rw [← hw1]; repeat (with_reducible (first | assumption | exact Below.refl _ _ | refine Below.alloc ?_ (by first | omega | (simp; done) | (simp; omega)) _ | refine Below.setCell ?_ (by first | omega | (simp; done) | (simp; omega)) _ | refine Below.drew ?_ | refine below_drewN ?_ _))
        have xt_ : Box w1 (w.heap.size) #[.int .i64 tI0, .int .i64 tI1] 40 := (by rw [← hw1]; exact (((Box.new (g := w.heap.size) _ #[.int .i64 tI0, .int .i64 tI1] 40 (by simp)).alloc _).alloc _))
        have xt := xt_; clear xt_
        have xr_ : Box w1 (w.heap.size + 1) #[.int .i64 0, .slice none 0 0] 33 := (by rw [← hw1]; exact ((Box.new (g := w.heap.size + 1) _ #[.int .i64 0, .slice none 0 0] 33 (by simp)).alloc _))
        have xr := xr_; clear xr_
        have xq_ : Box w1 (w.heap.size + 1 + 1) #[.int .i64 0, .int .i64 0] 40 := (by rw [← hw1]; exact (Box.new (g := w.heap.size + 1 + 1) _ #[.int .i64 0, .int .i64 0] 40 (by simp)))
        have xq := xq_; clear xq_
        clear hw1
        refine (iFieldOk_any _ _).mono ?_
        rintro e w_ ⟨rfl, rfl⟩
        obtain ⟨cxt_0, cxt_1, fxt_0, fxt_1⟩ := xt.two
        have l_xt_0 : w.heap.size < w1.heap.size := by omega
        go_wp2_with (first | (go_at_call 96; refine (within_any _ _ _ _).mono ?_; rintro e w' ⟨rfl, rfl⟩))
        refine (iTapeOk_any tI0 tI1 _).mono ?_
        rintro e w2 ⟨rfl, b2⟩
        clear cxt_0 cxt_1 fxt_0 fxt_1 l_xt_0
        have z2 := b2.size
        try simp only [World.size_alloc, World.size_setCell, size_drew] at z2
        have B2 : Below w.heap.size w w2 := Below.t b2
        have xt_ : Box w2 (w.heap.size) #[.int .i64 tI0, .int .i64 tI1] 40 := xt.below b2 (by first | omega | (simp [size_drew]; done) | (simp [size_drew]; omega))
        clear xt; have xt := xt_; clear xt_
        have xr_ : Box w2 (w.heap.size + 1) #[.int .i64 0, .slice none 0 0] 33 := xr.below b2 (by first | omega | (simp [size_drew]; done) | (simp [size_drew]; omega))
        clear xr; have xr := xr_; clear xr_
        have xq_ : Box w2 (w.heap.size + 1 + 1) #[.int .i64 0, .int .i64 0] 40 := xq.below b2 (by first | omega | (simp [size_drew]; done) | (simp [size_drew]; omega))
        clear xq; have xq := xq_; clear xq_
        obtain ⟨cxt_0, cxt_1, fxt_0, fxt_1⟩ := xt.two
        have l_xt_0 : w.heap.size < w2.heap.size := by omega
        go_wp2_with fail
        clear cxt_0 cxt_1 fxt_0 fxt_1 l_xt_0
        refine wp_region_held_drew (S := fun W => W.cell? ⟨w.heap.size, 0, none⟩ = some (.int .i64 tI0) ∧ W.cell? ⟨w.heap.size, 1, none⟩ = some (.int .i64 tI1)) (by kernel_rfl) ⟨xt.drew.two.1, xt.drew.two.2.1⟩ (fun hS => ?_)
        (refine tk 0 hS ?_; (try simp only [Act.put, layA, layB, layC]))
        (refine tk 1 hS ?_; (try simp only [Act.put, layA, layB, layC]))
        refine on 2 ?_
        obtain ⟨cxr_0, cxr_1, fxr_0, fxr_1⟩ := xr.two
        refine skipH (by go_simp; (first | done | with_reducible rfl | exact ⟨rfl, rfl⟩)) ?_ (fun hS_ => ?_)
        · exact ⟨((xt.far (by omega)).far (by omega)).drew.two.1, ((xt.far (by omega)).far (by omega)).drew.two.2.1⟩
        clear cxr_0 cxr_1 fxr_0 fxr_1
        clear hS
        have hS := hS_
        clear hS_
        (try simp only [Act.put, layA, layB, layC])
        refine on 3 ?_
        obtain ⟨cxq_0, cxq_1, fxq_0, fxq_1⟩ := xq.two
        refine skipH (by go_simp; (first | done | with_reducible rfl | exact ⟨rfl, rfl⟩)) ?_ (fun hS_ => ?_)
        · exact ⟨((((xt.far (by omega)).far (by omega)).far (by omega)).far (by omega)).drew.two.1, ((((xt.far (by omega)).far (by omega)).far (by omega)).far (by omega)).drew.two.2.1⟩
        clear cxq_0 cxq_1 fxq_0 fxq_1
        clear hS
        have hS := hS_
        clear hS_
        (try simp only [Act.put, layA, layB, layC])
        (refine tk 4 hS ?_; (try simp only [Act.put, layA, layB, layC]))
        clear hS
        refine wpAnyH_done (by kernel_rfl) ?_ _
        obtain ⟨cxr_0, cxr_1, fxr_0, fxr_1⟩ := xr.two
        have l_xr_0 : w.heap.size + 1 < w2.heap.size := by omega
        obtain ⟨cxq_0, cxq_1, fxq_0, fxq_1⟩ := xq.two
        have l_xq_0 : w.heap.size + 1 + 1 < w2.heap.size := by omega
        go_wp2
        refine bodyPost_ret (v := .tuple #[.agg #[.int .i64 0, .slice none 0 0], .agg #[.int .i64 tI0, .int .i64 tI1], .bool false]) ?_ rfl ⟨none, 0, 0, by rw [kP_no HO.out, kT_no HO.out, HO.out], ?_, ?_⟩
        · simp [results, Try.results48, go_sem, cxr_0, cxr_1, fxr_0, fxr_1, l_xr_0, cxq_0, cxq_1, fxq_0, fxq_1, l_xq_0]
        · rw [kL_no HO.out]; exact OwnL.nones _ (by simp) (by first | omega | (simp [size_drew]; done) | (simp [size_drew]; omega))
        · repeat (with_reducible (first | assumption | exact Below.refl _ _ | refine Below.alloc ?_ (by first | omega | (simp; done) | (simp; omega)) _ | refine Below.setCell ?_ (by first | omega | (simp; done) | (simp; omega)) _ | refine Below.drew ?_ | refine below_drewN ?_ _))
      | true =>
        cases k4 : decide ((900000 : Int) < tI1) with
        | true =>
          have q4 : decide (tI1 ≤ 900000) = false := by simp at k4 ⊢; omega
          have HO : Hid (kOk pI0 nI0 tI0 tI1 = false) := by show _ = _; simp [kOk, t9, k1, k2, k3, q4]
          go_enter Try.func48, Try.ntmps48
          go_wp2_with fail
          generalize hw1 : World.alloc _ _ = w1
          have z1 : w.heap.size + 1 + 1 + 1 ≤ w1.heap.size := by rw [← hw1]; simp
          have B1 : Below w.heap.size w w1 := by rw [← hw1]; repeat (with_reducible (first | assumption | exact Below.refl _ _ | refine Below.alloc ?_ (by first | omega | (simp; done) | (simp; omega)) _ | refine Below.setCell ?_ (by first | omega | (simp; done) | (simp; omega)) _ | refine Below.drew ?_ | refine below_drewN ?_ _))
          have xt_ : Box w1 (w.heap.size) #[.int .i64 tI0, .int .i64 tI1] 40 := (by rw [← hw1]; exact (((Box.new (g := w.heap.size) _ #[.int .i64 tI0, .int .i64 tI1] 40 (by simp)).alloc _).alloc _))
          have xt := xt_; clear xt_
          have xr_ : Box w1 (w.heap.size + 1) #[.int .i64 0, .slice none 0 0] 33 := (by rw [← hw1]; exact ((Box.new (g := w.heap.size + 1) _ #[.int .i64 0, .slice none 0 0] 33 (by simp)).alloc _))
          have xr := xr_; clear xr_
          have xq_ : Box w1 (w.heap.size + 1 + 1) #[.int .i64 0, .int .i64 0] 40 := (by rw [← hw1]; exact (Box.new (g := w.heap.size + 1 + 1) _ #[.int .i64 0, .int .i64 0] 40 (by simp)))
          have xq := xq_; clear xq_
          clear hw1
          refine (iFieldOk_any _ _).mono ?_
          rintro e w_ ⟨rfl, rfl⟩
          obtain ⟨cxt_0, cxt_1, fxt_0, fxt_1⟩ := xt.two
          have l_xt_0 : w.heap.size < w1.heap.size := by omega
          go_wp2_with (first | (go_at_call 96; refine (within_any _ _ _ _).mono ?_; rintro e w' ⟨rfl, rfl⟩))
          refine (iTapeOk_any tI0 tI1 _).mono ?_
          rintro e w2 ⟨rfl, b2⟩
          clear cxt_0 cxt_1 fxt_0 fxt_1 l_xt_0
          have z2 := b2.size
          try simp only [World.size_alloc, World.size_setCell, size_drew] at z2
          have B2 : Below w.heap.size w w2 := Below.t b2
          have xt_ : Box w2 (w.heap.size) #[.int .i64 tI0, .int .i64 tI1] 40 := xt.below b2 (by first | omega | (simp [size_drew]; done) | (simp [size_drew]; omega))
          clear xt; have xt := xt_; clear xt_
          have xr_ : Box w2 (w.heap.size + 1) #[.int .i64 0, .slice none 0 0] 33 := xr.below b2 (by first | omega | (simp [size_drew]; done) | (simp [size_drew]; omega))
          clear xr; have xr := xr_; clear xr_
          have xq_ : Box w2 (w.heap.size + 1 + 1) #[.int .i64 0, .int .i64 0] 40 := xq.below b2 (by first | omega | (simp [size_drew]; done) | (simp [size_drew]; omega))
          clear xq; have xq := xq_; clear xq_
          obtain ⟨cxt_0, cxt_1, fxt_0, fxt_1⟩ := xt.two
          have l_xt_0 : w.heap.size < w2.heap.size := by omega
          go_wp2_with fail
          clear cxt_0 cxt_1 fxt_0 fxt_1 l_xt_0
          refine wp_region_held_drew (S := fun W => W.cell? ⟨w.heap.size, 0, none⟩ = some (.int .i64 tI0) ∧ W.cell? ⟨w.heap.size, 1, none⟩ = some (.int .i64 tI1)) (by kernel_rfl) ⟨xt.drew.two.1, xt.drew.two.2.1⟩ (fun hS => ?_)
          (refine tk 0 hS ?_; (try simp only [Act.put, layA, layB, layC]))
          (refine tk 1 hS ?_; (try simp only [Act.put, layA, layB, layC]))
          refine on 2 ?_
          obtain ⟨cxr_0, cxr_1, fxr_0, fxr_1⟩ := xr.two
          refine skipH (by go_simp; (first | done | with_reducible rfl | exact ⟨rfl, rfl⟩)) ?_ (fun hS_ => ?_)
          · exact ⟨((xt.far (by omega)).far (by omega)).drew.two.1, ((xt.far (by omega)).far (by omega)).drew.two.2.1⟩
          clear cxr_0 cxr_1 fxr_0 fxr_1
          clear hS
          have hS := hS_
          clear hS_
          (try simp only [Act.put, layA, layB, layC])
          refine on 3 ?_
          obtain ⟨cxq_0, cxq_1, fxq_0, fxq_1⟩ := xq.two
          refine skipH (by go_simp; (first | done | with_reducible rfl | exact ⟨rfl, rfl⟩)) ?_ (fun hS_ => ?_)
          · exact ⟨((((xt.far (by omega)).far (by omega)).far (by omega)).far (by omega)).drew.two.1, ((((xt.far (by omega)).far (by omega)).far (by omega)).far (by omega)).drew.two.2.1⟩
          clear cxq_0 cxq_1 fxq_0 fxq_1
          clear hS
          have hS := hS_
          clear hS_
          (try simp only [Act.put, layA, layB, layC])
          (refine tk 4 hS ?_; (try simp only [Act.put, layA, layB, layC]))
          clear hS
          refine wpAnyH_done (by kernel_rfl) ?_ _
          obtain ⟨cxr_0, cxr_1, fxr_0, fxr_1⟩ := xr.two
          have l_xr_0 : w.heap.size + 1 < w2.heap.size := by omega
          obtain ⟨cxq_0, cxq_1, fxq_0, fxq_1⟩ := xq.two
          have l_xq_0 : w.heap.size + 1 + 1 < w2.heap.size := by omega
          go_wp2
          refine bodyPost_ret (v := .tuple #[.agg #[.int .i64 0, .slice none 0 0], .agg #[.int .i64 tI0, .int .i64 tI1], .bool false]) ?_ rfl ⟨none, 0, 0, by rw [kP_no HO.out, kT_no HO.out, HO.out], ?_, ?_⟩
          · simp [results, Try.results48, go_sem, cxr_0, cxr_1, fxr_0, fxr_1, l_xr_0, cxq_0, cxq_1, fxq_0, fxq_1, l_xq_0]
          · rw [kL_no HO.out]; exact OwnL.nones _ (by simp) (by first | omega | (simp [size_drew]; done) | (simp [size_drew]; omega))
          · repeat (with_reducible (first | assumption | exact Below.refl _ _ | refine Below.alloc ?_ (by first | omega | (simp; done) | (simp; omega)) _ | refine Below.setCell ?_ (by first | omega | (simp; done) | (simp; omega)) _ | refine Below.drew ?_ | refine below_drewN ?_ _))
        | false =>
          have q4 : decide (tI1 ≤ 900000) = true := by simp at k4 ⊢; omega
          have HO : Hid (kOk pI0 nI0 tI0 tI1 = true) := by show _ = _; simp [kOk, t9, k1, k2, k3, q4]
          go_enter Try.func48, Try.ntmps48
          go_wp2_with fail
          generalize hw1 : World.alloc _ _ = w1
          have z1 : w.heap.size + 1 + 1 + 1 ≤ w1.heap.size := by rw [← hw1]; simp
          have B1 : Below w.heap.size w w1 := by rw [← hw1]; repeat (with_reducible (first | assumption | exact Below.refl _ _ | refine Below.alloc ?_ (by first | omega | (simp; done) | (simp; omega)) _ | refine Below.setCell ?_ (by first | omega | (simp; done) | (simp; omega)) _ | refine Below.drew ?_ | refine below_drewN ?_ _))
          have xt_ : Box w1 (w.heap.size) #[.int .i64 tI0, .int .i64 tI1] 40 := (by rw [← hw1]; exact (((Box.new (g := w.heap.size) _ #[.int .i64 tI0, .int .i64 tI1] 40 (by simp)).alloc _).alloc _))
          have xt := xt_; clear xt_
          have xr_ : Box w1 (w.heap.size + 1) #[.int .i64 0, .slice none 0 0] 33 := (by rw [← hw1]; exact ((Box.new (g := w.heap.size + 1) _ #[.int .i64 0, .slice none 0 0] 33 (by simp)).alloc _))
          have xr := xr_; clear xr_
          have xq_ : Box w1 (w.heap.size + 1 + 1) #[.int .i64 0, .int .i64 0] 40 := (by rw [← hw1]; exact (Box.new (g := w.heap.size + 1 + 1) _ #[.int .i64 0, .int .i64 0] 40 (by simp)))
          have xq := xq_; clear xq_
          clear hw1
          refine (iFieldOk_any _ _).mono ?_
          rintro e w_ ⟨rfl, rfl⟩
          obtain ⟨cxt_0, cxt_1, fxt_0, fxt_1⟩ := xt.two
          have l_xt_0 : w.heap.size < w1.heap.size := by omega
          go_wp2_with (first | (go_at_call 96; refine (within_any _ _ _ _).mono ?_; rintro e w' ⟨rfl, rfl⟩))
          refine (iTapeOk_any tI0 tI1 _).mono ?_
          rintro e w2 ⟨rfl, b2⟩
          clear cxt_0 cxt_1 fxt_0 fxt_1 l_xt_0
          have z2 := b2.size
          try simp only [World.size_alloc, World.size_setCell, size_drew] at z2
          have B2 : Below w.heap.size w w2 := Below.t b2
          have xt_ : Box w2 (w.heap.size) #[.int .i64 tI0, .int .i64 tI1] 40 := xt.below b2 (by first | omega | (simp [size_drew]; done) | (simp [size_drew]; omega))
          clear xt; have xt := xt_; clear xt_
          have xr_ : Box w2 (w.heap.size + 1) #[.int .i64 0, .slice none 0 0] 33 := xr.below b2 (by first | omega | (simp [size_drew]; done) | (simp [size_drew]; omega))
          clear xr; have xr := xr_; clear xr_
          have xq_ : Box w2 (w.heap.size + 1 + 1) #[.int .i64 0, .int .i64 0] 40 := xq.below b2 (by first | omega | (simp [size_drew]; done) | (simp [size_drew]; omega))
          clear xq; have xq := xq_; clear xq_
          obtain ⟨cxt_0, cxt_1, fxt_0, fxt_1⟩ := xt.two
          have l_xt_0 : w.heap.size < w2.heap.size := by omega
          go_wp2_with fail
          refine (iTapeList_L tI0 tI1 pI0 nI0).mono ?_
          rintro e w3 ⟨pA, pn, pc, rfl, r0, b3⟩
          clear cxt_0 cxt_1 fxt_0 fxt_1 l_xt_0
          have z3 := b3.size
          try simp only [World.size_alloc, World.size_setCell, size_drew] at z3
          have B3 : Below w.heap.size w w3 := Below.t b3
          have xt_ : Box w3 (w.heap.size) #[.int .i64 tI0, .int .i64 tI1] 40 := xt.below b3 (by first | omega | (simp [size_drew]; done) | (simp [size_drew]; omega))
          clear xt; have xt := xt_; clear xt_
          have xr_ : Box w3 (w.heap.size + 1) #[.int .i64 0, .slice none 0 0] 33 := xr.below b3 (by first | omega | (simp [size_drew]; done) | (simp [size_drew]; omega))
          clear xr; have xr := xr_; clear xr_
          have xq_ : Box w3 (w.heap.size + 1 + 1) #[.int .i64 0, .int .i64 0] 40 := xq.below b3 (by first | omega | (simp [size_drew]; done) | (simp [size_drew]; omega))
          clear xq; have xq := xq_; clear xq_
          try simp only [World.size_alloc, World.size_setCell, size_drew] at r0
          go_wp2_with fail
          generalize hw4 : World.alloc _ _ = w4
          have z4 : w3.heap.size + 1 ≤ w4.heap.size := by rw [← hw4]; simp
          have B4 : Below w.heap.size w w4 := by rw [← hw4]; repeat (with_reducible (first | assumption | exact Below.refl _ _ | refine Below.alloc ?_ (by first | omega | (simp; done) | (simp; omega)) _ | refine Below.setCell ?_ (by first | omega | (simp; done) | (simp; omega)) _ | refine Below.drew ?_ | refine below_drewN ?_ _))
          have hK : ∀ k, k < w3.heap.size → w4.heap[k]? = w3.heap[k]? := by
            intro k hk; rw [← hw4]
            repeat (first | rfl | refine (Below.heap_alloc _ _ _ (by first | omega | (simp; omega))).trans ?_)
          have r0_ := r0.keepBlock (w' := w4) (by omega) (fun k h1 h2 => hK k  (by have := r0.2.1; omega))
          clear r0; have r0 := r0_; clear r0_
          have xt_ : Box w4 (w.heap.size) #[.int .i64 tI0, .int .i64 tI1] 40 := (by rw [← hw4]; exact (xt.alloc _))
          clear xt; have xt := xt_; clear xt_
          have xr_ : Box w4 (w.heap.size + 1) #[.int .i64 0, .slice none 0 0] 33 := (by rw [← hw4]; exact (xr.alloc _))
          clear xr; have xr := xr_; clear xr_
          have xq_ : Box w4 (w.heap.size + 1 + 1) #[.int .i64 0, .int .i64 0] 40 := (by rw [← hw4]; exact (xq.alloc _))
          clear xq; have xq := xq_; clear xq_
          have xn_ : Box w4 (w3.heap.size) #[.int .i64 tI0, .int .i64 (tapeLN tI0 tI1 pI0 nI0)] 40 := (by rw [← hw4]; exact (Box.new (g := w3.heap.size) _ #[.int .i64 tI0, .int .i64 (tapeLN tI0 tI1 pI0 nI0)] 40 (by simp)))
          have xn := xn_; clear xn_
          clear hw4 hK
          refine wp_region_held_drew (S := fun W => W.cell? ⟨w3.heap.size, 0, none⟩ = some (.int .i64 tI0) ∧ W.cell? ⟨w3.heap.size, 1, none⟩ = some (.int .i64 (tapeLN tI0 tI1 pI0 nI0))) (by kernel_rfl) ⟨xn.drew.two.1, xn.drew.two.2.1⟩ (fun hS => ?_)
          (refine tk 0 hS ?_; (try simp only [Act.put, layA, layB, layC]))
          (refine tk 1 hS ?_; (try simp only [Act.put, layA, layB, layC]))
          (refine tk 2 hS ?_; (try simp only [Act.put, layA, layB, layC]))
          (refine tk 3 hS ?_; (try simp only [Act.put, layA, layB, layC]))
          refine on 4 ?_
          obtain ⟨cxr_0, cxr_1, fxr_0, fxr_1⟩ := xr.two
          refine skipH (by go_simp; (first | done | with_reducible rfl | exact ⟨rfl, rfl⟩)) ?_ (fun hS_ => ?_)
          · exact ⟨((xn.far (by omega)).far (by omega)).drew.two.1, ((xn.far (by omega)).far (by omega)).drew.two.2.1⟩
          clear cxr_0 cxr_1 fxr_0 fxr_1
          clear hS
          have hS := hS_
          clear hS_
          (try simp only [Act.put, layA, layB, layC])
          refine on 5 ?_
          obtain ⟨cxq_0, cxq_1, fxq_0, fxq_1⟩ := xq.two
          refine skipH (by go_simp; (first | done | with_reducible rfl | exact ⟨rfl, rfl⟩)) ?_ (fun hS_ => ?_)
          · exact ⟨((((xn.far (by omega)).far (by omega)).far (by omega)).far (by omega)).drew.two.1, ((((xn.far (by omega)).far (by omega)).far (by omega)).far (by omega)).drew.two.2.1⟩
          clear cxq_0 cxq_1 fxq_0 fxq_1
          clear hS
          have hS := hS_
          clear hS_
          (try simp only [Act.put, layA, layB, layC])
          (refine tk 6 hS ?_; (try simp only [Act.put, layA, layB, layC]))
          clear hS
          refine wpAnyH_done (by kernel_rfl) ?_ _
          obtain ⟨cxr_0, cxr_1, fxr_0, fxr_1⟩ := xr.two
          have l_xr_0 : w.heap.size + 1 < w4.heap.size := by omega
          obtain ⟨cxq_0, cxq_1, fxq_0, fxq_1⟩ := xq.two
          have l_xq_0 : w.heap.size + 1 + 1 < w4.heap.size := by omega
          go_wp2
          refine bodyPost_ret (v := .tuple #[.agg #[.int .i64 pI0, .slice pA pn pc], .agg #[.int .i64 tI0, .int .i64 (tapeLN tI0 tI1 pI0 nI0)], .bool true]) ?_ rfl ⟨pA, pn, pc, by rw [kP_yes HO.out, kT_yes HO.out, HO.out], ?_, ?_⟩
          · simp [results, Try.results48, go_sem, cxr_0, cxr_1, fxr_0, fxr_1, l_xr_0, cxq_0, cxq_1, fxq_0, fxq_1, l_xq_0]
          · have R := r0
            rw [kL_yes HO.out]; exact OwnL.mono ((((R.setBox (by omega)).setBox (by omega)).setBox (by omega)).setBox (by omega)) (by omega) (by first | omega | (simp [size_drew]; done) | (simp [size_drew]; omega)) (Nat.le_refl _)
          · repeat (with_reducible (first | assumption | exact Below.refl _ _ | refine Below.alloc ?_ (by first | omega | (simp; done) | (simp; omega)) _ | refine Below.setCell ?_ (by first | omega | (simp; done) | (simp; omega)) _ | refine Below.drew ?_ | refine below_drewN ?_ _))
end Go.Proofs.Ytllnnbmgdbinnaa

/- Contracts of AuthAdd, AuthScale, AuthConst. Printed by mac2.py. -/
import Derived.Test.YtllnnbmgdbinnaaMac2
namespace Go.Proofs.Ytllnnbmgdbinnaa
set_option linter.unusedSimpArgs false
set_option linter.unusedVariables false
open Go.RowKit
set_option maxRecDepth 100000 in
set_option maxHeartbeats 2000000 in
theorem sAuthAdd_L {kA1 : Option Addr} {kn1 kc1 : Nat} {kL1 : List Int} {aA0 : Option Addr} {an0 ac0 : Nat} {aL0 : List Int} {aA1 : Option Addr} {an1 ac1 : Nat} {aL1 : List Int} {bA0 : Option Addr} {bn0 bc0 : Nat} {bL0 : List Int} {bA1 : Option Addr} {bn1 bc1 : Nat} {bL1 : List Int} {w : World} (kI0 : Int) (kH : RdL w [((.slice kA1 kn1 kc1), .ints kL1)]) (kL1n : kL1.length ≤ 1048576) (aH : RdL w [((.slice aA0 an0 ac0), .ints aL0), ((.slice aA1 an1 ac1), .ints aL1)]) (aL0n : aL0.length ≤ 1048576) (aL1n : aL1.length ≤ 1048576) (bH : RdL w [((.slice bA0 bn0 bc0), .ints bL0), ((.slice bA1 bn1 bc1), .ints bL1)]) (bL0n : bL0.length ≤ 1048576) (bL1n : bL1.length ≤ 1048576) :
    Calls Try.prog 56 #[.agg #[.int .i64 kI0, (.slice kA1 kn1 kc1)], .agg #[(.slice aA0 an0 ac0), (.slice aA1 an1 ac1)], .agg #[(.slice bA0 bn0 bc0), (.slice bA1 bn1 bc1)]] w fun e w' => ∃ rA0 rn0 rc0 rA1 rn1 rc1, e = .returned (.agg #[.slice rA0 rn0 rc0, .slice rA1 rn1 rc1]) ∧ OwnL w' w.heap.size w'.heap.size [(.slice rA0 rn0 rc0, .ints (aAddS kI0 kL1 aL0 aL1 bL0 bL1)), (.slice rA1 rn1 rc1, .ints (aAddM kI0 kL1 aL0 aL1 bL0 bL1))] ∧ Below w.heap.size w w' := by
  have kL1i : Ints w kA1 kn1 kL1 := Rd.toInts (kH ((.slice kA1 kn1 kc1), .ints kL1) (by simp))
  have kL1l := Lib.hid kL1i.len
  have kL1m : kn1 ≤ 1048576 := by rw [← kL1l.out]; exact kL1n
  have aL0i : Ints w aA0 an0 aL0 := Rd.toInts (aH ((.slice aA0 an0 ac0), .ints aL0) (by simp))
  have aL0l := Lib.hid aL0i.len
  have aL0m : an0 ≤ 1048576 := by rw [← aL0l.out]; exact aL0n
  have aL1i : Ints w aA1 an1 aL1 := Rd.toInts (aH ((.slice aA1 an1 ac1), .ints aL1) (by simp))
  have aL1l := Lib.hid aL1i.len
  have aL1m : an1 ≤ 1048576 := by rw [← aL1l.out]; exact aL1n
  have bL0i : Ints w bA0 bn0 bL0 := Rd.toInts (bH ((.slice bA0 bn0 bc0), .ints bL0) (by simp))
  have bL0l := Lib.hid bL0i.len
  have bL0m : bn0 ≤ 1048576 := by rw [← bL0l.out]; exact bL0n
  have bL1i : Ints w bA1 bn1 bL1 := Rd.toInts (bH ((.slice bA1 bn1 bc1), .ints bL1) (by simp))
  have bL1l := Lib.hid bL1i.len
  have bL1m : bn1 ≤ 1048576 := by rw [← bL1l.out]; exact bL1n
  cases k1 : formOk kI0 kL1 aL0 aL1 with
  | false =>
    have HO : add2 kI0 kL1 aL0 aL1 bL0 bL1 = false := by simp [add2, k1]
    go_enter Try.func56, Try.ntmps56
    go_wp2_with fail
    refine (sl23Form_L kI0 (RdL.b kH) kL1n (RdL.b aH) aL0n aL1n).mono ?_
    rintro e w1 ⟨rfl, b1⟩
    have z1 := b1.size
    try simp only [World.size_alloc, World.size_setCell, size_drew] at z1
    have B1 : Below w.heap.size w w1 := Below.t b1
    have xk_ : Box w1 (w.heap.size) #[.int .i64 kI0, (.slice kA1 kn1 kc1)] 33 := ((((Box.new (g := w.heap.size) _ #[.int .i64 kI0, (.slice kA1 kn1 kc1)] 33 (by simp)).alloc _).alloc _).alloc _).below b1 (by first | omega | (simp [size_drew]; done) | (simp [size_drew]; omega))
    have xk := xk_; clear xk_
    have xa_ : Box w1 (w.heap.size + 1) #[(.slice aA0 an0 ac0), (.slice aA1 an1 ac1)] 38 := (((Box.new (g := w.heap.size + 1) _ #[(.slice aA0 an0 ac0), (.slice aA1 an1 ac1)] 38 (by simp)).alloc _).alloc _).below b1 (by first | omega | (simp [size_drew]; done) | (simp [size_drew]; omega))
    have xa := xa_; clear xa_
    have xb_ : Box w1 (w.heap.size + 1 + 1) #[(.slice bA0 bn0 bc0), (.slice bA1 bn1 bc1)] 38 := ((Box.new (g := w.heap.size + 1 + 1) _ #[(.slice bA0 bn0 bc0), (.slice bA1 bn1 bc1)] 38 (by simp)).alloc _).below b1 (by first | omega | (simp [size_drew]; done) | (simp [size_drew]; omega))
    have xb := xb_; clear xb_
    have xr_ : Box w1 (w.heap.size + 1 + 1 + 1) #[.slice none 0 0, .slice none 0 0] 38 := (Box.new (g := w.heap.size + 1 + 1 + 1) _ #[.slice none 0 0, .slice none 0 0] 38 (by simp)).below b1 (by first | omega | (simp [size_drew]; done) | (simp [size_drew]; omega))
    have xr := xr_; clear xr_
    obtain ⟨cxr_0, cxr_1, fxr_0, fxr_1⟩ := xr.two
    have l_xr_0 : w.heap.size + 1 + 1 + 1 < w1.heap.size := by omega
    go_wp2
    refine bodyPost_ret (v := .agg #[.slice none 0 0, .slice none 0 0]) ?_ rfl ⟨_, _, _, _, _, _, rfl, ?_, ?_⟩
    · simp [results, Try.results56, go_sem, cxr_0, cxr_1, fxr_0, fxr_1, l_xr_0]
    · rw [aAddS_no HO, aAddM_no HO]; exact OwnL.nones _ (by simp) (by first | omega | (simp [size_drew]; done) | (simp [size_drew]; omega))
    · repeat (with_reducible (first | assumption | exact Below.refl _ _ | refine Below.alloc ?_ (by first | omega | (simp; done) | (simp; omega)) _ | refine Below.setCell ?_ (by first | omega | (simp; done) | (simp; omega)) _ | refine Below.drew ?_ | refine below_drewN ?_ _))
  | true =>
    cases k2 : formOk kI0 kL1 bL0 bL1 with
    | false =>
      have HO : add2 kI0 kL1 aL0 aL1 bL0 bL1 = false := by simp [add2, k2]
      go_enter Try.func56, Try.ntmps56
      go_wp2_with fail
      refine (sl23Form_L kI0 (RdL.b kH) kL1n (RdL.b aH) aL0n aL1n).mono ?_
      rintro e w1 ⟨rfl, b1⟩
      have z1 := b1.size
      try simp only [World.size_alloc, World.size_setCell, size_drew] at z1
      have B1 : Below w.heap.size w w1 := Below.t b1
      have xk_ : Box w1 (w.heap.size) #[.int .i64 kI0, (.slice kA1 kn1 kc1)] 33 := ((((Box.new (g := w.heap.size) _ #[.int .i64 kI0, (.slice kA1 kn1 kc1)] 33 (by simp)).alloc _).alloc _).alloc _).below b1 (by first | omega | (simp [size_drew]; done) | (simp [size_drew]; omega))
      have xk := xk_; clear xk_
      have xa_ : Box w1 (w.heap.size + 1) #[(.slice aA0 an0 ac0), (.slice aA1 an1 ac1)] 38 := (((Box.new (g := w.heap.size + 1) _ #[(.slice aA0 an0 ac0), (.slice aA1 an1 ac1)] 38 (by simp)).alloc _).alloc _).below b1 (by first | omega | (simp [size_drew]; done) | (simp [size_drew]; omega))
      have xa := xa_; clear xa_
      have xb_ : Box w1 (w.heap.size + 1 + 1) #[(.slice bA0 bn0 bc0), (.slice bA1 bn1 bc1)] 38 := ((Box.new (g := w.heap.size + 1 + 1) _ #[(.slice bA0 bn0 bc0), (.slice bA1 bn1 bc1)] 38 (by simp)).alloc _).below b1 (by first | omega | (simp [size_drew]; done) | (simp [size_drew]; omega))
      have xb := xb_; clear xb_
      have xr_ : Box w1 (w.heap.size + 1 + 1 + 1) #[.slice none 0 0, .slice none 0 0] 38 := (Box.new (g := w.heap.size + 1 + 1 + 1) _ #[.slice none 0 0, .slice none 0 0] 38 (by simp)).below b1 (by first | omega | (simp [size_drew]; done) | (simp [size_drew]; omega))
      have xr := xr_; clear xr_
      obtain ⟨cxk_0, cxk_1, fxk_0, fxk_1⟩ := xk.two
      have l_xk_0 : w.heap.size < w1.heap.size := by omega
      obtain ⟨cxb_0, cxb_1, fxb_0, fxb_1⟩ := xb.two
      have l_xb_0 : w.heap.size + 1 + 1 < w1.heap.size := by omega
      go_wp2_with fail
      refine (sl23Form_L kI0 (RdL.b kH) kL1n (RdL.b bH) bL0n bL1n).mono ?_
      rintro e w2 ⟨rfl, b2⟩
      clear cxk_0 cxk_1 fxk_0 fxk_1 l_xk_0 cxb_0 cxb_1 fxb_0 fxb_1 l_xb_0
      have z2 := b2.size
      try simp only [World.size_alloc, World.size_setCell, size_drew] at z2
      have B2 : Below w.heap.size w w2 := Below.t b2
      have xk_ : Box w2 (w.heap.size) #[.int .i64 kI0, (.slice kA1 kn1 kc1)] 33 := xk.below b2 (by first | omega | (simp [size_drew]; done) | (simp [size_drew]; omega))
      clear xk; have xk := xk_; clear xk_
      have xa_ : Box w2 (w.heap.size + 1) #[(.slice aA0 an0 ac0), (.slice aA1 an1 ac1)] 38 := xa.below b2 (by first | omega | (simp [size_drew]; done) | (simp [size_drew]; omega))
      clear xa; have xa := xa_; clear xa_
      have xb_ : Box w2 (w.heap.size + 1 + 1) #[(.slice bA0 bn0 bc0), (.slice bA1 bn1 bc1)] 38 := xb.below b2 (by first | omega | (simp [size_drew]; done) | (simp [size_drew]; omega))
      clear xb; have xb := xb_; clear xb_
      have xr_ : Box w2 (w.heap.size + 1 + 1 + 1) #[.slice none 0 0, .slice none 0 0] 38 := xr.below b2 (by first | omega | (simp [size_drew]; done) | (simp [size_drew]; omega))
      clear xr; have xr := xr_; clear xr_
      obtain ⟨cxr_0, cxr_1, fxr_0, fxr_1⟩ := xr.two
      have l_xr_0 : w.heap.size + 1 + 1 + 1 < w2.heap.size := by omega
      go_wp2
      refine bodyPost_ret (v := .agg #[.slice none 0 0, .slice none 0 0]) ?_ rfl ⟨_, _, _, _, _, _, rfl, ?_, ?_⟩
      · simp [results, Try.results56, go_sem, cxr_0, cxr_1, fxr_0, fxr_1, l_xr_0]
      · rw [aAddS_no HO, aAddM_no HO]; exact OwnL.nones _ (by simp) (by first | omega | (simp [size_drew]; done) | (simp [size_drew]; omega))
      · repeat (with_reducible (first | assumption | exact Below.refl _ _ | refine Below.alloc ?_ (by first | omega | (simp; done) | (simp; omega)) _ | refine Below.setCell ?_ (by first | omega | (simp; done) | (simp; omega)) _ | refine Below.drew ?_ | refine below_drewN ?_ _))
    | true =>
      have HO : add2 kI0 kL1 aL0 aL1 bL0 bL1 = true := by simp [add2, k1, k2]
      go_enter Try.func56, Try.ntmps56
      go_wp2_with fail
      refine (sl23Form_L kI0 (RdL.b kH) kL1n (RdL.b aH) aL0n aL1n).mono ?_
      rintro e w1 ⟨rfl, b1⟩
      have z1 := b1.size
      try simp only [World.size_alloc, World.size_setCell, size_drew] at z1
      have B1 : Below w.heap.size w w1 := Below.t b1
      have xk_ : Box w1 (w.heap.size) #[.int .i64 kI0, (.slice kA1 kn1 kc1)] 33 := ((((Box.new (g := w.heap.size) _ #[.int .i64 kI0, (.slice kA1 kn1 kc1)] 33 (by simp)).alloc _).alloc _).alloc _).below b1 (by first | omega | (simp [size_drew]; done) | (simp [size_drew]; omega))
      have xk := xk_; clear xk_
      have xa_ : Box w1 (w.heap.size + 1) #[(.slice aA0 an0 ac0), (.slice aA1 an1 ac1)] 38 := (((Box.new (g := w.heap.size + 1) _ #[(.slice aA0 an0 ac0), (.slice aA1 an1 ac1)] 38 (by simp)).alloc _).alloc _).below b1 (by first | omega | (simp [size_drew]; done) | (simp [size_drew]; omega))
      have xa := xa_; clear xa_
      have xb_ : Box w1 (w.heap.size + 1 + 1) #[(.slice bA0 bn0 bc0), (.slice bA1 bn1 bc1)] 38 := ((Box.new (g := w.heap.size + 1 + 1) _ #[(.slice bA0 bn0 bc0), (.slice bA1 bn1 bc1)] 38 (by simp)).alloc _).below b1 (by first | omega | (simp [size_drew]; done) | (simp [size_drew]; omega))
      have xb := xb_; clear xb_
      have xr_ : Box w1 (w.heap.size + 1 + 1 + 1) #[.slice none 0 0, .slice none 0 0] 38 := (Box.new (g := w.heap.size + 1 + 1 + 1) _ #[.slice none 0 0, .slice none 0 0] 38 (by simp)).below b1 (by first | omega | (simp [size_drew]; done) | (simp [size_drew]; omega))
      have xr := xr_; clear xr_
      obtain ⟨cxk_0, cxk_1, fxk_0, fxk_1⟩ := xk.two
      have l_xk_0 : w.heap.size < w1.heap.size := by omega
      obtain ⟨cxb_0, cxb_1, fxb_0, fxb_1⟩ := xb.two
      have l_xb_0 : w.heap.size + 1 + 1 < w1.heap.size := by omega
      go_wp2_with fail
      refine (sl23Form_L kI0 (RdL.b kH) kL1n (RdL.b bH) bL0n bL1n).mono ?_
      rintro e w2 ⟨rfl, b2⟩
      clear cxk_0 cxk_1 fxk_0 fxk_1 l_xk_0 cxb_0 cxb_1 fxb_0 fxb_1 l_xb_0
      have z2 := b2.size
      try simp only [World.size_alloc, World.size_setCell, size_drew] at z2
      have B2 : Below w.heap.size w w2 := Below.t b2
      have xk_ : Box w2 (w.heap.size) #[.int .i64 kI0, (.slice kA1 kn1 kc1)] 33 := xk.below b2 (by first | omega | (simp [size_drew]; done) | (simp [size_drew]; omega))
      clear xk; have xk := xk_; clear xk_
      have xa_ : Box w2 (w.heap.size + 1) #[(.slice aA0 an0 ac0), (.slice aA1 an1 ac1)] 38 := xa.below b2 (by first | omega | (simp [size_drew]; done) | (simp [size_drew]; omega))
      clear xa; have xa := xa_; clear xa_
      have xb_ : Box w2 (w.heap.size + 1 + 1) #[(.slice bA0 bn0 bc0), (.slice bA1 bn1 bc1)] 38 := xb.below b2 (by first | omega | (simp [size_drew]; done) | (simp [size_drew]; omega))
      clear xb; have xb := xb_; clear xb_
      have xr_ : Box w2 (w.heap.size + 1 + 1 + 1) #[.slice none 0 0, .slice none 0 0] 38 := xr.below b2 (by first | omega | (simp [size_drew]; done) | (simp [size_drew]; omega))
      clear xr; have xr := xr_; clear xr_
      obtain ⟨cxk_0, cxk_1, fxk_0, fxk_1⟩ := xk.two
      have l_xk_0 : w.heap.size < w2.heap.size := by omega
      obtain ⟨cxa_0, cxa_1, fxa_0, fxa_1⟩ := xa.two
      have l_xa_0 : w.heap.size + 1 < w2.heap.size := by omega
      obtain ⟨cxb_0, cxb_1, fxb_0, fxb_1⟩ := xb.two
      have l_xb_0 : w.heap.size + 1 + 1 < w2.heap.size := by omega
      go_wp2_with fail
      clear cxk_0 cxk_1 fxk_0 fxk_1 l_xk_0 cxa_0 cxa_1 fxa_0 fxa_1 l_xa_0 cxb_0 cxb_1 fxb_0 fxb_1 l_xb_0
      refine wp_region_held_drew (S := fun W => W.cell? ⟨w.heap.size, 0, none⟩ = some (.int .i64 kI0) ∧ W.cell? ⟨w.heap.size, 1, none⟩ = some ((.slice kA1 kn1 kc1)) ∧ W.cell? ⟨w.heap.size + 1, 0, none⟩ = some ((.slice aA0 an0 ac0)) ∧ W.cell? ⟨w.heap.size + 1, 1, none⟩ = some ((.slice aA1 an1 ac1)) ∧ W.cell? ⟨w.heap.size + 1 + 1, 0, none⟩ = some ((.slice bA0 bn0 bc0)) ∧ W.cell? ⟨w.heap.size + 1 + 1, 1, none⟩ = some ((.slice bA1 bn1 bc1))) (by kernel_rfl) ⟨xk.drew.two.1, xk.drew.two.2.1, xa.drew.two.1, xa.drew.two.2.1, xb.drew.two.1, xb.drew.two.2.1⟩ (fun hS => ?_)
      (refine tk 0 hS ?_; (try simp only [Act.put, layA, layB, layC]))
      (refine tk 1 hS ?_; (try simp only [Act.put, layA, layB, layC]))
      (refine tk 2 hS ?_; (try simp only [Act.put, layA, layB, layC]))
      (refine tk 3 hS ?_; (try simp only [Act.put, layA, layB, layC]))
      (refine tk 4 hS ?_; (try simp only [Act.put, layA, layB, layC]))
      (refine tk 5 hS ?_; (try simp only [Act.put, layA, layB, layC]))
      (refine tk 7 hS ?_; (try simp only [Act.put, layA, layB, layC]))
      (refine tk 8 hS ?_; (try simp only [Act.put, layA, layB, layC]))
      (refine tk 9 hS ?_; (try simp only [Act.put, layA, layB, layC]))
      (refine tk 10 hS ?_; (try simp only [Act.put, layA, layB, layC]))
      (refine tk 11 hS ?_; (try simp only [Act.put, layA, layB, layC]))
      (refine tk 12 hS ?_; (try simp only [Act.put, layA, layB, layC]))
      refine on 6 ?_
      refine callH (by go_simp; (first | done | with_reducible rfl | exact ⟨rfl, rfl⟩)) ?_
      go_at_call 119
      refine (sAddShares_L kI0 aL0i.b bL0i.b (by omega) (by omega)).mono ?_
      rintro e w3 ⟨pA, pn, pc, rfl, r0, b3⟩
      clear hS
      have z3 := Below.size b3
      (try simp only [World.size_alloc, World.size_setCell, size_drew] at z3)
      have B3 : Below w.heap.size w w3 := Below.t b3
      have xk_ : Box w3 (w.heap.size) #[.int .i64 kI0, (.slice kA1 kn1 kc1)] 33 := (Box.b xk.drew b3)
      clear xk; have xk := xk_; clear xk_
      have xa_ : Box w3 (w.heap.size + 1) #[(.slice aA0 an0 ac0), (.slice aA1 an1 ac1)] 38 := (Box.b xa.drew b3)
      clear xa; have xa := xa_; clear xa_
      have xb_ : Box w3 (w.heap.size + 1 + 1) #[(.slice bA0 bn0 bc0), (.slice bA1 bn1 bc1)] 38 := (Box.b xb.drew b3)
      clear xb; have xb := xb_; clear xb_
      have xr_ : Box w3 (w.heap.size + 1 + 1 + 1) #[.slice none 0 0, .slice none 0 0] 38 := (Box.b xr.drew b3)
      clear xr; have xr := xr_; clear xr_
      (try simp only [World.size_alloc, World.size_setCell, size_drew] at r0)
      refine ⟨_, rfl, ⟨xk.two.1, xk.two.2.1, xa.two.1, xa.two.2.1, xb.two.1, xb.two.2.1⟩, fun hS => ?_⟩
      (try simp only [Act.put, layA, layB, layC])
      refine on 13 ?_
      refine callH (by go_simp; (first | done | with_reducible rfl | exact ⟨rfl, rfl⟩)) ?_
      go_at_call 119
      refine (sAddShares_L kI0 aL1i.b bL1i.b (by omega) (by omega)).mono ?_
      rintro e w4 ⟨qA, qn, qc, rfl, r1, b4⟩
      clear hS
      have z4 := Below.size b4
      (try simp only [World.size_alloc, World.size_setCell, size_drew] at z4)
      have B4 : Below w.heap.size w w4 := Below.t b4
      have r0_ := (r0.below b4)
      clear r0; have r0 := r0_; clear r0_
      have xk_ : Box w4 (w.heap.size) #[.int .i64 kI0, (.slice kA1 kn1 kc1)] 33 := (Box.b xk b4)
      clear xk; have xk := xk_; clear xk_
      have xa_ : Box w4 (w.heap.size + 1) #[(.slice aA0 an0 ac0), (.slice aA1 an1 ac1)] 38 := (Box.b xa b4)
      clear xa; have xa := xa_; clear xa_
      have xb_ : Box w4 (w.heap.size + 1 + 1) #[(.slice bA0 bn0 bc0), (.slice bA1 bn1 bc1)] 38 := (Box.b xb b4)
      clear xb; have xb := xb_; clear xb_
      have xr_ : Box w4 (w.heap.size + 1 + 1 + 1) #[.slice none 0 0, .slice none 0 0] 38 := (Box.b xr b4)
      clear xr; have xr := xr_; clear xr_
      (try simp only [World.size_alloc, World.size_setCell, size_drew] at r1)
      refine ⟨_, rfl, ⟨xk.two.1, xk.two.2.1, xa.two.1, xa.two.2.1, xb.two.1, xb.two.2.1⟩, fun hS => ?_⟩
      (try simp only [Act.put, layA, layB, layC])
      (refine tk 14 hS ?_; (try simp only [Act.put, layA, layB, layC]))
      refine on 15 ?_
      obtain ⟨cxr_0, cxr_1, fxr_0, fxr_1⟩ := xr.two
      refine skipH (by go_simp; (first | done | with_reducible rfl | exact ⟨rfl, rfl⟩)) ?_ (fun hS_ => ?_)
      · exact ⟨((xk.far (by omega)).far (by omega)).two.1, ((xk.far (by omega)).far (by omega)).two.2.1, ((xa.far (by omega)).far (by omega)).two.1, ((xa.far (by omega)).far (by omega)).two.2.1, ((xb.far (by omega)).far (by omega)).two.1, ((xb.far (by omega)).far (by omega)).two.2.1⟩
      clear cxr_0 cxr_1 fxr_0 fxr_1
      clear hS
      have hS := hS_
      clear hS_
      (try simp only [Act.put, layA, layB, layC])
      clear hS
      refine wpAnyH_done (by kernel_rfl) ?_ _
      obtain ⟨cxr_0, cxr_1, fxr_0, fxr_1⟩ := xr.two
      have l_xr_0 : w.heap.size + 1 + 1 + 1 < w4.heap.size := by omega
      go_wp2
      refine bodyPost_ret (v := .agg #[.slice pA pn pc, .slice qA qn qc]) ?_ rfl ⟨_, _, _, _, _, _, rfl, ?_, ?_⟩
      · simp [results, Try.results56, go_sem, cxr_0, cxr_1, fxr_0, fxr_1, l_xr_0]
      · have R := (OwnL.then r0 r1 (by omega))
        simp only [List.cons_append, List.nil_append] at R
        rw [aAddS_yes HO, aAddM_yes HO]; exact OwnL.mono ((R.setBox (by omega)).setBox (by omega)) (by omega) (by first | omega | (simp [size_drew]; done) | (simp [size_drew]; omega)) (Nat.le_refl _)
      · repeat (with_reducible (first | assumption | exact Below.refl _ _ | refine Below.alloc ?_ (by first | omega | (simp; done) | (simp; omega)) _ | refine Below.setCell ?_ (by first | omega | (simp; done) | (simp; omega)) _ | refine Below.drew ?_ | refine below_drewN ?_ _))
set_option maxRecDepth 100000 in
set_option maxHeartbeats 2000000 in
theorem iAuthAdd_L {kA1 : Option Addr} {kn1 kc1 : Nat} {kL1 : List Int} {aA0 : Option Addr} {an0 ac0 : Nat} {aL0 : List Int} {aA1 : Option Addr} {an1 ac1 : Nat} {aL1 : List Int} {bA0 : Option Addr} {bn0 bc0 : Nat} {bL0 : List Int} {bA1 : Option Addr} {bn1 bc1 : Nat} {bL1 : List Int} {w : World} (kI0 : Int) (kH : RdL w [((.slice kA1 kn1 kc1), .ints kL1)]) (kL1n : kL1.length ≤ 1048576) (aH : RdL w [((.slice aA0 an0 ac0), .ints aL0), ((.slice aA1 an1 ac1), .ints aL1)]) (aL0n : aL0.length ≤ 1048576) (aL1n : aL1.length ≤ 1048576) (bH : RdL w [((.slice bA0 bn0 bc0), .ints bL0), ((.slice bA1 bn1 bc1), .ints bL1)]) (bL0n : bL0.length ≤ 1048576) (bL1n : bL1.length ≤ 1048576) :
    Calls Try.prog 57 #[.agg #[.int .i64 kI0, (.slice kA1 kn1 kc1)], .agg #[(.slice aA0 an0 ac0), (.slice aA1 an1 ac1)], .agg #[(.slice bA0 bn0 bc0), (.slice bA1 bn1 bc1)]] w fun e w' => ∃ rA0 rn0 rc0 rA1 rn1 rc1, e = .returned (.agg #[.slice rA0 rn0 rc0, .slice rA1 rn1 rc1]) ∧ OwnL w' w.heap.size w'.heap.size [(.slice rA0 rn0 rc0, .ints (aAddS kI0 kL1 aL0 aL1 bL0 bL1)), (.slice rA1 rn1 rc1, .ints (aAddM kI0 kL1 aL0 aL1 bL0 bL1))] ∧ Below w.heap.size w w' := by
  have kL1i : Ints w kA1 kn1 kL1 := Rd.toInts (kH ((.slice kA1 kn1 kc1), .ints kL1) (by simp))
  have kL1l := Lib.hid kL1i.len
  have kL1m : kn1 ≤ 1048576 := by rw [← kL1l.out]; exact kL1n
  have aL0i : Ints w aA0 an0 aL0 := Rd.toInts (aH ((.slice aA0 an0 ac0), .ints aL0) (by simp))
  have aL0l := Lib.hid aL0i.len
  have aL0m : an0 ≤ 1048576 := by rw [← aL0l.out]; exact aL0n
  have aL1i : Ints w aA1 an1 aL1 := Rd.toInts (aH ((.slice aA1 an1 ac1), .ints aL1) (by simp))
  have aL1l := Lib.hid aL1i.len
  have aL1m : an1 ≤ 1048576 := by rw [← aL1l.out]; exact aL1n
  have bL0i : Ints w bA0 bn0 bL0 := Rd.toInts (bH ((.slice bA0 bn0 bc0), .ints bL0) (by simp))
  have bL0l := Lib.hid bL0i.len
  have bL0m : bn0 ≤ 1048576 := by rw [← bL0l.out]; exact bL0n
  have bL1i : Ints w bA1 bn1 bL1 := Rd.toInts (bH ((.slice bA1 bn1 bc1), .ints bL1) (by simp))
  have bL1l := Lib.hid bL1i.len
  have bL1m : bn1 ≤ 1048576 := by rw [← bL1l.out]; exact bL1n
  cases HO : add2 kI0 kL1 aL0 aL1 bL0 bL1 with
  | false =>
    have k2 : isFormB kI0 kL1 [(aL0, aL1), (bL0, bL1)] = false := by rw [isFormB2]; exact HO
    go_enter Try.func57, Try.ntmps57
    go_wp2_with fail
    refine (isForm_any kI0 (RdL.b kH) kL1n _ 2 _ [(aL0, aL1), (bL0, bL1)] (AuthsAt.mk2 aL0i.b aL0m aL1i.b aL1m bL0i.b bL0m bL1i.b bL1m (by simp)) (by omega)).mono ?_
    rintro e w1 ⟨rfl, b1⟩
    have z1 := b1.size
    try simp only [World.size_alloc, World.size_setCell, size_drew] at z1
    have B1 : Below w.heap.size w w1 := Below.t b1
    have xk_ : Box w1 (w.heap.size) #[.int .i64 kI0, (.slice kA1 kn1 kc1)] 33 := (((((Box.new (g := w.heap.size) _ #[.int .i64 kI0, (.slice kA1 kn1 kc1)] 33 (by simp)).alloc _).alloc _).alloc _).alloc _).below b1 (by first | omega | (simp [size_drew]; done) | (simp [size_drew]; omega))
    have xk := xk_; clear xk_
    have xa_ : Box w1 (w.heap.size + 1) #[(.slice aA0 an0 ac0), (.slice aA1 an1 ac1)] 38 := ((((Box.new (g := w.heap.size + 1) _ #[(.slice aA0 an0 ac0), (.slice aA1 an1 ac1)] 38 (by simp)).alloc _).alloc _).alloc _).below b1 (by first | omega | (simp [size_drew]; done) | (simp [size_drew]; omega))
    have xa := xa_; clear xa_
    have xb_ : Box w1 (w.heap.size + 1 + 1) #[(.slice bA0 bn0 bc0), (.slice bA1 bn1 bc1)] 38 := (((Box.new (g := w.heap.size + 1 + 1) _ #[(.slice bA0 bn0 bc0), (.slice bA1 bn1 bc1)] 38 (by simp)).alloc _).alloc _).below b1 (by first | omega | (simp [size_drew]; done) | (simp [size_drew]; omega))
    have xb := xb_; clear xb_
    have xr_ : Box w1 (w.heap.size + 1 + 1 + 1) #[.slice none 0 0, .slice none 0 0] 38 := ((Box.new (g := w.heap.size + 1 + 1 + 1) _ #[.slice none 0 0, .slice none 0 0] 38 (by simp)).alloc _).below b1 (by first | omega | (simp [size_drew]; done) | (simp [size_drew]; omega))
    have xr := xr_; clear xr_
    have xlit_ : Box w1 (w.heap.size + 1 + 1 + 1 + 1) #[(.slice aA0 an0 ac0), (.slice aA1 an1 ac1), (.slice bA0 bn0 bc0), (.slice bA1 bn1 bc1)] 38 := (Box.new (g := w.heap.size + 1 + 1 + 1 + 1) _ #[(.slice aA0 an0 ac0), (.slice aA1 an1 ac1), (.slice bA0 bn0 bc0), (.slice bA1 bn1 bc1)] 38 (by simp)).below b1 (by first | omega | (simp [size_drew]; done) | (simp [size_drew]; omega))
    have xlit := xlit_; clear xlit_
    obtain ⟨cxr_0, cxr_1, fxr_0, fxr_1⟩ := xr.two
    have l_xr_0 : w.heap.size + 1 + 1 + 1 < w1.heap.size := by omega
    go_wp2
    refine bodyPost_ret (v := .agg #[.slice none 0 0, .slice none 0 0]) ?_ rfl ⟨_, _, _, _, _, _, rfl, ?_, ?_⟩
    · simp [results, Try.results57, go_sem, cxr_0, cxr_1, fxr_0, fxr_1, l_xr_0]
    · rw [aAddS_no HO, aAddM_no HO]; exact OwnL.nones _ (by simp) (by first | omega | (simp [size_drew]; done) | (simp [size_drew]; omega))
    · repeat (with_reducible (first | assumption | exact Below.refl _ _ | refine Below.alloc ?_ (by first | omega | (simp; done) | (simp; omega)) _ | refine Below.setCell ?_ (by first | omega | (simp; done) | (simp; omega)) _ | refine Below.drew ?_ | refine below_drewN ?_ _))
  | true =>
    have k2 : isFormB kI0 kL1 [(aL0, aL1), (bL0, bL1)] = true := by rw [isFormB2]; exact HO
    go_enter Try.func57, Try.ntmps57
    go_wp2_with fail
    refine (isForm_any kI0 (RdL.b kH) kL1n _ 2 _ [(aL0, aL1), (bL0, bL1)] (AuthsAt.mk2 aL0i.b aL0m aL1i.b aL1m bL0i.b bL0m bL1i.b bL1m (by simp)) (by omega)).mono ?_
    rintro e w1 ⟨rfl, b1⟩
    have z1 := b1.size
    try simp only [World.size_alloc, World.size_setCell, size_drew] at z1
    have B1 : Below w.heap.size w w1 := Below.t b1
    have xk_ : Box w1 (w.heap.size) #[.int .i64 kI0, (.slice kA1 kn1 kc1)] 33 := (((((Box.new (g := w.heap.size) _ #[.int .i64 kI0, (.slice kA1 kn1 kc1)] 33 (by simp)).alloc _).alloc _).alloc _).alloc _).below b1 (by first | omega | (simp [size_drew]; done) | (simp [size_drew]; omega))
    have xk := xk_; clear xk_
    have xa_ : Box w1 (w.heap.size + 1) #[(.slice aA0 an0 ac0), (.slice aA1 an1 ac1)] 38 := ((((Box.new (g := w.heap.size + 1) _ #[(.slice aA0 an0 ac0), (.slice aA1 an1 ac1)] 38 (by simp)).alloc _).alloc _).alloc _).below b1 (by first | omega | (simp [size_drew]; done) | (simp [size_drew]; omega))
    have xa := xa_; clear xa_
    have xb_ : Box w1 (w.heap.size + 1 + 1) #[(.slice bA0 bn0 bc0), (.slice bA1 bn1 bc1)] 38 := (((Box.new (g := w.heap.size + 1 + 1) _ #[(.slice bA0 bn0 bc0), (.slice bA1 bn1 bc1)] 38 (by simp)).alloc _).alloc _).below b1 (by first | omega | (simp [size_drew]; done) | (simp [size_drew]; omega))
    have xb := xb_; clear xb_
    have xr_ : Box w1 (w.heap.size + 1 + 1 + 1) #[.slice none 0 0, .slice none 0 0] 38 := ((Box.new (g := w.heap.size + 1 + 1 + 1) _ #[.slice none 0 0, .slice none 0 0] 38 (by simp)).alloc _).below b1 (by first | omega | (simp [size_drew]; done) | (simp [size_drew]; omega))
    have xr := xr_; clear xr_
    have xlit_ : Box w1 (w.heap.size + 1 + 1 + 1 + 1) #[(.slice aA0 an0 ac0), (.slice aA1 an1 ac1), (.slice bA0 bn0 bc0), (.slice bA1 bn1 bc1)] 38 := (Box.new (g := w.heap.size + 1 + 1 + 1 + 1) _ #[(.slice aA0 an0 ac0), (.slice aA1 an1 ac1), (.slice bA0 bn0 bc0), (.slice bA1 bn1 bc1)] 38 (by simp)).below b1 (by first | omega | (simp [size_drew]; done) | (simp [size_drew]; omega))
    have xlit := xlit_; clear xlit_
    obtain ⟨cxk_0, cxk_1, fxk_0, fxk_1⟩ := xk.two
    have l_xk_0 : w.heap.size < w1.heap.size := by omega
    obtain ⟨cxa_0, cxa_1, fxa_0, fxa_1⟩ := xa.two
    have l_xa_0 : w.heap.size + 1 < w1.heap.size := by omega
    obtain ⟨cxb_0, cxb_1, fxb_0, fxb_1⟩ := xb.two
    have l_xb_0 : w.heap.size + 1 + 1 < w1.heap.size := by omega
    go_wp2_with fail
    clear cxk_0 cxk_1 fxk_0 fxk_1 l_xk_0 cxa_0 cxa_1 fxa_0 fxa_1 l_xa_0 cxb_0 cxb_1 fxb_0 fxb_1 l_xb_0
    refine wp_region_held_drew (S := fun W => W.cell? ⟨w.heap.size, 0, none⟩ = some (.int .i64 kI0) ∧ W.cell? ⟨w.heap.size, 1, none⟩ = some ((.slice kA1 kn1 kc1)) ∧ W.cell? ⟨w.heap.size + 1, 0, none⟩ = some ((.slice aA0 an0 ac0)) ∧ W.cell? ⟨w.heap.size + 1, 1, none⟩ = some ((.slice aA1 an1 ac1)) ∧ W.cell? ⟨w.heap.size + 1 + 1, 0, none⟩ = some ((.slice bA0 bn0 bc0)) ∧ W.cell? ⟨w.heap.size + 1 + 1, 1, none⟩ = some ((.slice bA1 bn1 bc1))) (by kernel_rfl) ⟨xk.drew.two.1, xk.drew.two.2.1, xa.drew.two.1, xa.drew.two.2.1, xb.drew.two.1, xb.drew.two.2.1⟩ (fun hS => ?_)
    (refine tk 0 hS ?_; (try simp only [Act.put, layA, layB, layC]))
    (refine tk 1 hS ?_; (try simp only [Act.put, layA, layB, layC]))
    (refine tk 2 hS ?_; (try simp only [Act.put, layA, layB, layC]))
    (refine tk 3 hS ?_; (try simp only [Act.put, layA, layB, layC]))
    (refine tk 4 hS ?_; (try simp only [Act.put, layA, layB, layC]))
    (refine tk 5 hS ?_; (try simp only [Act.put, layA, layB, layC]))
    (refine tk 7 hS ?_; (try simp only [Act.put, layA, layB, layC]))
    (refine tk 8 hS ?_; (try simp only [Act.put, layA, layB, layC]))
    (refine tk 9 hS ?_; (try simp only [Act.put, layA, layB, layC]))
    (refine tk 10 hS ?_; (try simp only [Act.put, layA, layB, layC]))
    (refine tk 11 hS ?_; (try simp only [Act.put, layA, layB, layC]))
    (refine tk 12 hS ?_; (try simp only [Act.put, layA, layB, layC]))
    refine on 6 ?_
    refine callH (by go_simp; (first | done | with_reducible rfl | exact ⟨rfl, rfl⟩)) ?_
    go_at_call 120
    refine (iAddShares_L kI0 aL0i.b bL0i.b (by omega) (by omega)).mono ?_
    rintro e w2 ⟨pA, pn, pc, rfl, r0, b2⟩
    clear hS
    have z2 := Below.size b2
    (try simp only [World.size_alloc, World.size_setCell, size_drew] at z2)
    have B2 : Below w.heap.size w w2 := Below.t b2
    have xk_ : Box w2 (w.heap.size) #[.int .i64 kI0, (.slice kA1 kn1 kc1)] 33 := (Box.b xk.drew b2)
    clear xk; have xk := xk_; clear xk_
    have xa_ : Box w2 (w.heap.size + 1) #[(.slice aA0 an0 ac0), (.slice aA1 an1 ac1)] 38 := (Box.b xa.drew b2)
    clear xa; have xa := xa_; clear xa_
    have xb_ : Box w2 (w.heap.size + 1 + 1) #[(.slice bA0 bn0 bc0), (.slice bA1 bn1 bc1)] 38 := (Box.b xb.drew b2)
    clear xb; have xb := xb_; clear xb_
    have xr_ : Box w2 (w.heap.size + 1 + 1 + 1) #[.slice none 0 0, .slice none 0 0] 38 := (Box.b xr.drew b2)
    clear xr; have xr := xr_; clear xr_
    (try simp only [World.size_alloc, World.size_setCell, size_drew] at r0)
    refine ⟨_, rfl, ⟨xk.two.1, xk.two.2.1, xa.two.1, xa.two.2.1, xb.two.1, xb.two.2.1⟩, fun hS => ?_⟩
    (try simp only [Act.put, layA, layB, layC])
    refine on 13 ?_
    refine callH (by go_simp; (first | done | with_reducible rfl | exact ⟨rfl, rfl⟩)) ?_
    go_at_call 120
    refine (iAddShares_L kI0 aL1i.b bL1i.b (by omega) (by omega)).mono ?_
    rintro e w3 ⟨qA, qn, qc, rfl, r1, b3⟩
    clear hS
    have z3 := Below.size b3
    (try simp only [World.size_alloc, World.size_setCell, size_drew] at z3)
    have B3 : Below w.heap.size w w3 := Below.t b3
    have r0_ := (r0.below b3)
    clear r0; have r0 := r0_; clear r0_
    have xk_ : Box w3 (w.heap.size) #[.int .i64 kI0, (.slice kA1 kn1 kc1)] 33 := (Box.b xk b3)
    clear xk; have xk := xk_; clear xk_
    have xa_ : Box w3 (w.heap.size + 1) #[(.slice aA0 an0 ac0), (.slice aA1 an1 ac1)] 38 := (Box.b xa b3)
    clear xa; have xa := xa_; clear xa_
    have xb_ : Box w3 (w.heap.size + 1 + 1) #[(.slice bA0 bn0 bc0), (.slice bA1 bn1 bc1)] 38 := (Box.b xb b3)
    clear xb; have xb := xb_; clear xb_
    have xr_ : Box w3 (w.heap.size + 1 + 1 + 1) #[.slice none 0 0, .slice none 0 0] 38 := (Box.b xr b3)
    clear xr; have xr := xr_; clear xr_
    (try simp only [World.size_alloc, World.size_setCell, size_drew] at r1)
    refine ⟨_, rfl, ⟨xk.two.1, xk.two.2.1, xa.two.1, xa.two.2.1, xb.two.1, xb.two.2.1⟩, fun hS => ?_⟩
    (try simp only [Act.put, layA, layB, layC])
    (refine tk 14 hS ?_; (try simp only [Act.put, layA, layB, layC]))
    refine on 15 ?_
    obtain ⟨cxr_0, cxr_1, fxr_0, fxr_1⟩ := xr.two
    refine skipH (by go_simp; (first | done | with_reducible rfl | exact ⟨rfl, rfl⟩)) ?_ (fun hS_ => ?_)
    · exact ⟨((xk.far (by omega)).far (by omega)).two.1, ((xk.far (by omega)).far (by omega)).two.2.1, ((xa.far (by omega)).far (by omega)).two.1, ((xa.far (by omega)).far (by omega)).two.2.1, ((xb.far (by omega)).far (by omega)).two.1, ((xb.far (by omega)).far (by omega)).two.2.1⟩
    clear cxr_0 cxr_1 fxr_0 fxr_1
    clear hS
    have hS := hS_
    clear hS_
    (try simp only [Act.put, layA, layB, layC])
    clear hS
    refine wpAnyH_done (by kernel_rfl) ?_ _
    obtain ⟨cxr_0, cxr_1, fxr_0, fxr_1⟩ := xr.two
    have l_xr_0 : w.heap.size + 1 + 1 + 1 < w3.heap.size := by omega
    go_wp2
    refine bodyPost_ret (v := .agg #[.slice pA pn pc, .slice qA qn qc]) ?_ rfl ⟨_, _, _, _, _, _, rfl, ?_, ?_⟩
    · simp [results, Try.results57, go_sem, cxr_0, cxr_1, fxr_0, fxr_1, l_xr_0]
    · have R := (OwnL.then r0 r1 (by omega))
      simp only [List.cons_append, List.nil_append] at R
      rw [aAddS_yes HO, aAddM_yes HO]; exact OwnL.mono ((R.setBox (by omega)).setBox (by omega)) (by omega) (by first | omega | (simp [size_drew]; done) | (simp [size_drew]; omega)) (Nat.le_refl _)
    · repeat (with_reducible (first | assumption | exact Below.refl _ _ | refine Below.alloc ?_ (by first | omega | (simp; done) | (simp; omega)) _ | refine Below.setCell ?_ (by first | omega | (simp; done) | (simp; omega)) _ | refine Below.drew ?_ | refine below_drewN ?_ _))
set_option maxRecDepth 100000 in
set_option maxHeartbeats 2000000 in
theorem sAuthScale_L {kA1 : Option Addr} {kn1 kc1 : Nat} {kL1 : List Int} {aA0 : Option Addr} {an0 ac0 : Nat} {aL0 : List Int} {aA1 : Option Addr} {an1 ac1 : Nat} {aL1 : List Int} {w : World} (kI0 : Int) (kH : RdL w [((.slice kA1 kn1 kc1), .ints kL1)]) (kL1n : kL1.length ≤ 1048576) (aH : RdL w [((.slice aA0 an0 ac0), .ints aL0), ((.slice aA1 an1 ac1), .ints aL1)]) (aL0n : aL0.length ≤ 1048576) (aL1n : aL1.length ≤ 1048576) (cI0 : Int) :
    Calls Try.prog 52 #[.agg #[.int .i64 kI0, (.slice kA1 kn1 kc1)], .agg #[(.slice aA0 an0 ac0), (.slice aA1 an1 ac1)], .int .i64 cI0] w fun e w' => ∃ rA0 rn0 rc0 rA1 rn1 rc1, e = .returned (.agg #[.slice rA0 rn0 rc0, .slice rA1 rn1 rc1]) ∧ OwnL w' w.heap.size w'.heap.size [(.slice rA0 rn0 rc0, .ints (aScS kI0 kL1 aL0 aL1 cI0)), (.slice rA1 rn1 rc1, .ints (aScM kI0 kL1 aL0 aL1 cI0))] ∧ Below w.heap.size w w' := by
  have kL1i : Ints w kA1 kn1 kL1 := Rd.toInts (kH ((.slice kA1 kn1 kc1), .ints kL1) (by simp))
  have kL1l := Lib.hid kL1i.len
  have kL1m : kn1 ≤ 1048576 := by rw [← kL1l.out]; exact kL1n
  have aL0i : Ints w aA0 an0 aL0 := Rd.toInts (aH ((.slice aA0 an0 ac0), .ints aL0) (by simp))
  have aL0l := Lib.hid aL0i.len
  have aL0m : an0 ≤ 1048576 := by rw [← aL0l.out]; exact aL0n
  have aL1i : Ints w aA1 an1 aL1 := Rd.toInts (aH ((.slice aA1 an1 ac1), .ints aL1) (by simp))
  have aL1l := Lib.hid aL1i.len
  have aL1m : an1 ≤ 1048576 := by rw [← aL1l.out]; exact aL1n
  cases k1 : formOk kI0 kL1 aL0 aL1 with
  | false =>
    have HO : sc1 kI0 kL1 aL0 aL1 cI0 = false := by simp [sc1, k1]
    go_enter Try.func52, Try.ntmps52
    go_wp2_with fail
    refine (sl23Form_L kI0 (RdL.b kH) kL1n (RdL.b aH) aL0n aL1n).mono ?_
    rintro e w1 ⟨rfl, b1⟩
    have z1 := b1.size
    try simp only [World.size_alloc, World.size_setCell, size_drew] at z1
    have B1 : Below w.heap.size w w1 := Below.t b1
    have xk_ : Box w1 (w.heap.size) #[.int .i64 kI0, (.slice kA1 kn1 kc1)] 33 := (((Box.new (g := w.heap.size) _ #[.int .i64 kI0, (.slice kA1 kn1 kc1)] 33 (by simp)).alloc _).alloc _).below b1 (by first | omega | (simp [size_drew]; done) | (simp [size_drew]; omega))
    have xk := xk_; clear xk_
    have xa_ : Box w1 (w.heap.size + 1) #[(.slice aA0 an0 ac0), (.slice aA1 an1 ac1)] 38 := ((Box.new (g := w.heap.size + 1) _ #[(.slice aA0 an0 ac0), (.slice aA1 an1 ac1)] 38 (by simp)).alloc _).below b1 (by first | omega | (simp [size_drew]; done) | (simp [size_drew]; omega))
    have xa := xa_; clear xa_
    have xr_ : Box w1 (w.heap.size + 1 + 1) #[.slice none 0 0, .slice none 0 0] 38 := (Box.new (g := w.heap.size + 1 + 1) _ #[.slice none 0 0, .slice none 0 0] 38 (by simp)).below b1 (by first | omega | (simp [size_drew]; done) | (simp [size_drew]; omega))
    have xr := xr_; clear xr_
    obtain ⟨cxr_0, cxr_1, fxr_0, fxr_1⟩ := xr.two
    have l_xr_0 : w.heap.size + 1 + 1 < w1.heap.size := by omega
    go_wp2
    refine bodyPost_ret (v := .agg #[.slice none 0 0, .slice none 0 0]) ?_ rfl ⟨_, _, _, _, _, _, rfl, ?_, ?_⟩
    · simp [results, Try.results52, go_sem, cxr_0, cxr_1, fxr_0, fxr_1, l_xr_0]
    · rw [aScS_no HO, aScM_no HO]; exact OwnL.nones _ (by simp) (by first | omega | (simp [size_drew]; done) | (simp [size_drew]; omega))
    · repeat (with_reducible (first | assumption | exact Below.refl _ _ | refine Below.alloc ?_ (by first | omega | (simp; done) | (simp; omega)) _ | refine Below.setCell ?_ (by first | omega | (simp; done) | (simp; omega)) _ | refine Below.drew ?_ | refine below_drewN ?_ _))
  | true =>
    cases k2 : elem kI0 cI0 with
    | false =>
      have HO : sc1 kI0 kL1 aL0 aL1 cI0 = false := by simp [sc1, k2]
      go_enter Try.func52, Try.ntmps52
      go_wp2_with fail
      refine (sl23Form_L kI0 (RdL.b kH) kL1n (RdL.b aH) aL0n aL1n).mono ?_
      rintro e w1 ⟨rfl, b1⟩
      have z1 := b1.size
      try simp only [World.size_alloc, World.size_setCell, size_drew] at z1
      have B1 : Below w.heap.size w w1 := Below.t b1
      have xk_ : Box w1 (w.heap.size) #[.int .i64 kI0, (.slice kA1 kn1 kc1)] 33 := (((Box.new (g := w.heap.size) _ #[.int .i64 kI0, (.slice kA1 kn1 kc1)] 33 (by simp)).alloc _).alloc _).below b1 (by first | omega | (simp [size_drew]; done) | (simp [size_drew]; omega))
      have xk := xk_; clear xk_
      have xa_ : Box w1 (w.heap.size + 1) #[(.slice aA0 an0 ac0), (.slice aA1 an1 ac1)] 38 := ((Box.new (g := w.heap.size + 1) _ #[(.slice aA0 an0 ac0), (.slice aA1 an1 ac1)] 38 (by simp)).alloc _).below b1 (by first | omega | (simp [size_drew]; done) | (simp [size_drew]; omega))
      have xa := xa_; clear xa_
      have xr_ : Box w1 (w.heap.size + 1 + 1) #[.slice none 0 0, .slice none 0 0] 38 := (Box.new (g := w.heap.size + 1 + 1) _ #[.slice none 0 0, .slice none 0 0] 38 (by simp)).below b1 (by first | omega | (simp [size_drew]; done) | (simp [size_drew]; omega))
      have xr := xr_; clear xr_
      obtain ⟨cxk_0, cxk_1, fxk_0, fxk_1⟩ := xk.two
      have l_xk_0 : w.heap.size < w1.heap.size := by omega
      go_wp2_with fail
      refine (sIsElement_any _ _ _).mono ?_
      rintro e w_ ⟨rfl, rfl⟩
      obtain ⟨cxr_0, cxr_1, fxr_0, fxr_1⟩ := xr.two
      have l_xr_0 : w.heap.size + 1 + 1 < w1.heap.size := by omega
      go_wp2
      refine bodyPost_ret (v := .agg #[.slice none 0 0, .slice none 0 0]) ?_ rfl ⟨_, _, _, _, _, _, rfl, ?_, ?_⟩
      · simp [results, Try.results52, go_sem, cxr_0, cxr_1, fxr_0, fxr_1, l_xr_0]
      · rw [aScS_no HO, aScM_no HO]; exact OwnL.nones _ (by simp) (by first | omega | (simp [size_drew]; done) | (simp [size_drew]; omega))
      · repeat (with_reducible (first | assumption | exact Below.refl _ _ | refine Below.alloc ?_ (by first | omega | (simp; done) | (simp; omega)) _ | refine Below.setCell ?_ (by first | omega | (simp; done) | (simp; omega)) _ | refine Below.drew ?_ | refine below_drewN ?_ _))
    | true =>
      have HO : sc1 kI0 kL1 aL0 aL1 cI0 = true := by simp [sc1, k1, k2]
      go_enter Try.func52, Try.ntmps52
      go_wp2_with fail
      refine (sl23Form_L kI0 (RdL.b kH) kL1n (RdL.b aH) aL0n aL1n).mono ?_
      rintro e w1 ⟨rfl, b1⟩
      have z1 := b1.size
      try simp only [World.size_alloc, World.size_setCell, size_drew] at z1
      have B1 : Below w.heap.size w w1 := Below.t b1
      have xk_ : Box w1 (w.heap.size) #[.int .i64 kI0, (.slice kA1 kn1 kc1)] 33 := (((Box.new (g := w.heap.size) _ #[.int .i64 kI0, (.slice kA1 kn1 kc1)] 33 (by simp)).alloc _).alloc _).below b1 (by first | omega | (simp [size_drew]; done) | (simp [size_drew]; omega))
      have xk := xk_; clear xk_
      have xa_ : Box w1 (w.heap.size + 1) #[(.slice aA0 an0 ac0), (.slice aA1 an1 ac1)] 38 := ((Box.new (g := w.heap.size + 1) _ #[(.slice aA0 an0 ac0), (.slice aA1 an1 ac1)] 38 (by simp)).alloc _).below b1 (by first | omega | (simp [size_drew]; done) | (simp [size_drew]; omega))
      have xa := xa_; clear xa_
      have xr_ : Box w1 (w.heap.size + 1 + 1) #[.slice none 0 0, .slice none 0 0] 38 := (Box.new (g := w.heap.size + 1 + 1) _ #[.slice none 0 0, .slice none 0 0] 38 (by simp)).below b1 (by first | omega | (simp [size_drew]; done) | (simp [size_drew]; omega))
      have xr := xr_; clear xr_
      obtain ⟨cxk_0, cxk_1, fxk_0, fxk_1⟩ := xk.two
      have l_xk_0 : w.heap.size < w1.heap.size := by omega
      go_wp2_with fail
      refine (sIsElement_any _ _ _).mono ?_
      rintro e w_ ⟨rfl, rfl⟩
      obtain ⟨cxk_0, cxk_1, fxk_0, fxk_1⟩ := xk.two
      have l_xk_0 : w.heap.size < w1.heap.size := by omega
      obtain ⟨cxa_0, cxa_1, fxa_0, fxa_1⟩ := xa.two
      have l_xa_0 : w.heap.size + 1 < w1.heap.size := by omega
      go_wp2_with fail
      clear cxk_0 cxk_1 fxk_0 fxk_1 l_xk_0 cxa_0 cxa_1 fxa_0 fxa_1 l_xa_0
      refine wp_region_held_drew (S := fun W => W.cell? ⟨w.heap.size, 0, none⟩ = some (.int .i64 kI0) ∧ W.cell? ⟨w.heap.size, 1, none⟩ = some ((.slice kA1 kn1 kc1)) ∧ W.cell? ⟨w.heap.size + 1, 0, none⟩ = some ((.slice aA0 an0 ac0)) ∧ W.cell? ⟨w.heap.size + 1, 1, none⟩ = some ((.slice aA1 an1 ac1))) (by kernel_rfl) ⟨xk.drew.two.1, xk.drew.two.2.1, xa.drew.two.1, xa.drew.two.2.1⟩ (fun hS => ?_)
      (refine tk 0 hS ?_; (try simp only [Act.put, layA, layB, layC]))
      (refine tk 1 hS ?_; (try simp only [Act.put, layA, layB, layC]))
      (refine tk 2 hS ?_; (try simp only [Act.put, layA, layB, layC]))
      (refine tk 3 hS ?_; (try simp only [Act.put, layA, layB, layC]))
      (refine tk 4 hS ?_; (try simp only [Act.put, layA, layB, layC]))
      (refine tk 6 hS ?_; (try simp only [Act.put, layA, layB, layC]))
      (refine tk 7 hS ?_; (try simp only [Act.put, layA, layB, layC]))
      (refine tk 8 hS ?_; (try simp only [Act.put, layA, layB, layC]))
      (refine tk 9 hS ?_; (try simp only [Act.put, layA, layB, layC]))
      (refine tk 10 hS ?_; (try simp only [Act.put, layA, layB, layC]))
      refine on 5 ?_
      refine callH (by go_simp; (first | done | with_reducible rfl | exact ⟨rfl, rfl⟩)) ?_
      go_at_call 117
      refine (sScaleShares_L kI0 cI0 aL0i.b (by omega)).mono ?_
      rintro e w2 ⟨pA, pn, pc, rfl, r0, b2⟩
      clear hS
      have z2 := Below.size b2
      (try simp only [World.size_alloc, World.size_setCell, size_drew] at z2)
      have B2 : Below w.heap.size w w2 := Below.t b2
      have xk_ : Box w2 (w.heap.size) #[.int .i64 kI0, (.slice kA1 kn1 kc1)] 33 := (Box.b xk.drew b2)
      clear xk; have xk := xk_; clear xk_
      have xa_ : Box w2 (w.heap.size + 1) #[(.slice aA0 an0 ac0), (.slice aA1 an1 ac1)] 38 := (Box.b xa.drew b2)
      clear xa; have xa := xa_; clear xa_
      have xr_ : Box w2 (w.heap.size + 1 + 1) #[.slice none 0 0, .slice none 0 0] 38 := (Box.b xr.drew b2)
      clear xr; have xr := xr_; clear xr_
      (try simp only [World.size_alloc, World.size_setCell, size_drew] at r0)
      refine ⟨_, rfl, ⟨xk.two.1, xk.two.2.1, xa.two.1, xa.two.2.1⟩, fun hS => ?_⟩
      (try simp only [Act.put, layA, layB, layC])
      refine on 11 ?_
      refine callH (by go_simp; (first | done | with_reducible rfl | exact ⟨rfl, rfl⟩)) ?_
      go_at_call 117
      refine (sScaleShares_L kI0 cI0 aL1i.b (by omega)).mono ?_
      rintro e w3 ⟨qA, qn, qc, rfl, r1, b3⟩
      clear hS
      have z3 := Below.size b3
      (try simp only [World.size_alloc, World.size_setCell, size_drew] at z3)
      have B3 : Below w.heap.size w w3 := Below.t b3
      have r0_ := (r0.below b3)
      clear r0; have r0 := r0_; clear r0_
      have xk_ : Box w3 (w.heap.size) #[.int .i64 kI0, (.slice kA1 kn1 kc1)] 33 := (Box.b xk b3)
      clear xk; have xk := xk_; clear xk_
      have xa_ : Box w3 (w.heap.size + 1) #[(.slice aA0 an0 ac0), (.slice aA1 an1 ac1)] 38 := (Box.b xa b3)
      clear xa; have xa := xa_; clear xa_
      have xr_ : Box w3 (w.heap.size + 1 + 1) #[.slice none 0 0, .slice none 0 0] 38 := (Box.b xr b3)
      clear xr; have xr := xr_; clear xr_
      (try simp only [World.size_alloc, World.size_setCell, size_drew] at r1)
      refine ⟨_, rfl, ⟨xk.two.1, xk.two.2.1, xa.two.1, xa.two.2.1⟩, fun hS => ?_⟩
      (try simp only [Act.put, layA, layB, layC])
      (refine tk 12 hS ?_; (try simp only [Act.put, layA, layB, layC]))
      refine on 13 ?_
      obtain ⟨cxr_0, cxr_1, fxr_0, fxr_1⟩ := xr.two
      refine skipH (by go_simp; (first | done | with_reducible rfl | exact ⟨rfl, rfl⟩)) ?_ (fun hS_ => ?_)
      · exact ⟨((xk.far (by omega)).far (by omega)).two.1, ((xk.far (by omega)).far (by omega)).two.2.1, ((xa.far (by omega)).far (by omega)).two.1, ((xa.far (by omega)).far (by omega)).two.2.1⟩
      clear cxr_0 cxr_1 fxr_0 fxr_1
      clear hS
      have hS := hS_
      clear hS_
      (try simp only [Act.put, layA, layB, layC])
      clear hS
      refine wpAnyH_done (by kernel_rfl) ?_ _
      obtain ⟨cxr_0, cxr_1, fxr_0, fxr_1⟩ := xr.two
      have l_xr_0 : w.heap.size + 1 + 1 < w3.heap.size := by omega
      go_wp2
      refine bodyPost_ret (v := .agg #[.slice pA pn pc, .slice qA qn qc]) ?_ rfl ⟨_, _, _, _, _, _, rfl, ?_, ?_⟩
      · simp [results, Try.results52, go_sem, cxr_0, cxr_1, fxr_0, fxr_1, l_xr_0]
      · have R := (OwnL.then r0 r1 (by omega))
        simp only [List.cons_append, List.nil_append] at R
        rw [aScS_yes HO, aScM_yes HO]; exact OwnL.mono ((R.setBox (by omega)).setBox (by omega)) (by omega) (by first | omega | (simp [size_drew]; done) | (simp [size_drew]; omega)) (Nat.le_refl _)
      · repeat (with_reducible (first | assumption | exact Below.refl _ _ | refine Below.alloc ?_ (by first | omega | (simp; done) | (simp; omega)) _ | refine Below.setCell ?_ (by first | omega | (simp; done) | (simp; omega)) _ | refine Below.drew ?_ | refine below_drewN ?_ _))
set_option maxRecDepth 100000 in
set_option maxHeartbeats 2000000 in
theorem iAuthScale_L {kA1 : Option Addr} {kn1 kc1 : Nat} {kL1 : List Int} {aA0 : Option Addr} {an0 ac0 : Nat} {aL0 : List Int} {aA1 : Option Addr} {an1 ac1 : Nat} {aL1 : List Int} {w : World} (kI0 : Int) (kH : RdL w [((.slice kA1 kn1 kc1), .ints kL1)]) (kL1n : kL1.length ≤ 1048576) (aH : RdL w [((.slice aA0 an0 ac0), .ints aL0), ((.slice aA1 an1 ac1), .ints aL1)]) (aL0n : aL0.length ≤ 1048576) (aL1n : aL1.length ≤ 1048576) (cI0 : Int) :
    Calls Try.prog 53 #[.agg #[.int .i64 kI0, (.slice kA1 kn1 kc1)], .agg #[(.slice aA0 an0 ac0), (.slice aA1 an1 ac1)], .int .i64 cI0] w fun e w' => ∃ rA0 rn0 rc0 rA1 rn1 rc1, e = .returned (.agg #[.slice rA0 rn0 rc0, .slice rA1 rn1 rc1]) ∧ OwnL w' w.heap.size w'.heap.size [(.slice rA0 rn0 rc0, .ints (aScS kI0 kL1 aL0 aL1 cI0)), (.slice rA1 rn1 rc1, .ints (aScM kI0 kL1 aL0 aL1 cI0))] ∧ Below w.heap.size w w' := by
  have kL1i : Ints w kA1 kn1 kL1 := Rd.toInts (kH ((.slice kA1 kn1 kc1), .ints kL1) (by simp))
  have kL1l := Lib.hid kL1i.len
  have kL1m : kn1 ≤ 1048576 := by rw [← kL1l.out]; exact kL1n
  have aL0i : Ints w aA0 an0 aL0 := Rd.toInts (aH ((.slice aA0 an0 ac0), .ints aL0) (by simp))
  have aL0l := Lib.hid aL0i.len
  have aL0m : an0 ≤ 1048576 := by rw [← aL0l.out]; exact aL0n
  have aL1i : Ints w aA1 an1 aL1 := Rd.toInts (aH ((.slice aA1 an1 ac1), .ints aL1) (by simp))
  have aL1l := Lib.hid aL1i.len
  have aL1m : an1 ≤ 1048576 := by rw [← aL1l.out]; exact aL1n
  cases k1 : formOk kI0 kL1 aL0 aL1 with
  | false =>
    have HO : sc1 kI0 kL1 aL0 aL1 cI0 = false := by simp [sc1, k1]
    have k9 : isFormB kI0 kL1 [(aL0, aL1)] = false := by rw [isFormB1]; exact k1
    go_enter Try.func53, Try.ntmps53
    go_wp2_with fail
    refine (isForm_any kI0 (RdL.b kH) kL1n _ 1 _ [(aL0, aL1)] (AuthsAt.mk1 aL0i.b aL0m aL1i.b aL1m (by simp)) (by omega)).mono ?_
    rintro e w1 ⟨rfl, b1⟩
    have z1 := b1.size
    try simp only [World.size_alloc, World.size_setCell, size_drew] at z1
    have B1 : Below w.heap.size w w1 := Below.t b1
    have xk_ : Box w1 (w.heap.size) #[.int .i64 kI0, (.slice kA1 kn1 kc1)] 33 := ((((Box.new (g := w.heap.size) _ #[.int .i64 kI0, (.slice kA1 kn1 kc1)] 33 (by simp)).alloc _).alloc _).alloc _).below b1 (by first | omega | (simp [size_drew]; done) | (simp [size_drew]; omega))
    have xk := xk_; clear xk_
    have xa_ : Box w1 (w.heap.size + 1) #[(.slice aA0 an0 ac0), (.slice aA1 an1 ac1)] 38 := (((Box.new (g := w.heap.size + 1) _ #[(.slice aA0 an0 ac0), (.slice aA1 an1 ac1)] 38 (by simp)).alloc _).alloc _).below b1 (by first | omega | (simp [size_drew]; done) | (simp [size_drew]; omega))
    have xa := xa_; clear xa_
    have xr_ : Box w1 (w.heap.size + 1 + 1) #[.slice none 0 0, .slice none 0 0] 38 := ((Box.new (g := w.heap.size + 1 + 1) _ #[.slice none 0 0, .slice none 0 0] 38 (by simp)).alloc _).below b1 (by first | omega | (simp [size_drew]; done) | (simp [size_drew]; omega))
    have xr := xr_; clear xr_
    have xlit_ : Box w1 (w.heap.size + 1 + 1 + 1) #[(.slice aA0 an0 ac0), (.slice aA1 an1 ac1)] 38 := (Box.new (g := w.heap.size + 1 + 1 + 1) _ #[(.slice aA0 an0 ac0), (.slice aA1 an1 ac1)] 38 (by simp)).below b1 (by first | omega | (simp [size_drew]; done) | (simp [size_drew]; omega))
    have xlit := xlit_; clear xlit_
    obtain ⟨cxr_0, cxr_1, fxr_0, fxr_1⟩ := xr.two
    have l_xr_0 : w.heap.size + 1 + 1 < w1.heap.size := by omega
    go_wp2
    refine bodyPost_ret (v := .agg #[.slice none 0 0, .slice none 0 0]) ?_ rfl ⟨_, _, _, _, _, _, rfl, ?_, ?_⟩
    · simp [results, Try.results53, go_sem, cxr_0, cxr_1, fxr_0, fxr_1, l_xr_0]
    · rw [aScS_no HO, aScM_no HO]; exact OwnL.nones _ (by simp) (by first | omega | (simp [size_drew]; done) | (simp [size_drew]; omega))
    · repeat (with_reducible (first | assumption | exact Below.refl _ _ | refine Below.alloc ?_ (by first | omega | (simp; done) | (simp; omega)) _ | refine Below.setCell ?_ (by first | omega | (simp; done) | (simp; omega)) _ | refine Below.drew ?_ | refine below_drewN ?_ _))
  | true =>
    have k9 : isFormB kI0 kL1 [(aL0, aL1)] = true := by rw [isFormB1]; exact k1
    cases k2 : elem kI0 cI0 with
    | false =>
      have HO : sc1 kI0 kL1 aL0 aL1 cI0 = false := by simp [sc1, k2]
      go_enter Try.func53, Try.ntmps53
      go_wp2_with fail
      refine (isForm_any kI0 (RdL.b kH) kL1n _ 1 _ [(aL0, aL1)] (AuthsAt.mk1 aL0i.b aL0m aL1i.b aL1m (by simp)) (by omega)).mono ?_
      rintro e w1 ⟨rfl, b1⟩
      have z1 := b1.size
      try simp only [World.size_alloc, World.size_setCell, size_drew] at z1
      have B1 : Below w.heap.size w w1 := Below.t b1
      have xk_ : Box w1 (w.heap.size) #[.int .i64 kI0, (.slice kA1 kn1 kc1)] 33 := ((((Box.new (g := w.heap.size) _ #[.int .i64 kI0, (.slice kA1 kn1 kc1)] 33 (by simp)).alloc _).alloc _).alloc _).below b1 (by first | omega | (simp [size_drew]; done) | (simp [size_drew]; omega))
      have xk := xk_; clear xk_
      have xa_ : Box w1 (w.heap.size + 1) #[(.slice aA0 an0 ac0), (.slice aA1 an1 ac1)] 38 := (((Box.new (g := w.heap.size + 1) _ #[(.slice aA0 an0 ac0), (.slice aA1 an1 ac1)] 38 (by simp)).alloc _).alloc _).below b1 (by first | omega | (simp [size_drew]; done) | (simp [size_drew]; omega))
      have xa := xa_; clear xa_
      have xr_ : Box w1 (w.heap.size + 1 + 1) #[.slice none 0 0, .slice none 0 0] 38 := ((Box.new (g := w.heap.size + 1 + 1) _ #[.slice none 0 0, .slice none 0 0] 38 (by simp)).alloc _).below b1 (by first | omega | (simp [size_drew]; done) | (simp [size_drew]; omega))
      have xr := xr_; clear xr_
      have xlit_ : Box w1 (w.heap.size + 1 + 1 + 1) #[(.slice aA0 an0 ac0), (.slice aA1 an1 ac1)] 38 := (Box.new (g := w.heap.size + 1 + 1 + 1) _ #[(.slice aA0 an0 ac0), (.slice aA1 an1 ac1)] 38 (by simp)).below b1 (by first | omega | (simp [size_drew]; done) | (simp [size_drew]; omega))
      have xlit := xlit_; clear xlit_
      obtain ⟨cxk_0, cxk_1, fxk_0, fxk_1⟩ := xk.two
      have l_xk_0 : w.heap.size < w1.heap.size := by omega
      go_wp2_with fail
      refine (iIsElement_any _ _ _).mono ?_
      rintro e w_ ⟨rfl, rfl⟩
      obtain ⟨cxr_0, cxr_1, fxr_0, fxr_1⟩ := xr.two
      have l_xr_0 : w.heap.size + 1 + 1 < w1.heap.size := by omega
      go_wp2
      refine bodyPost_ret (v := .agg #[.slice none 0 0, .slice none 0 0]) ?_ rfl ⟨_, _, _, _, _, _, rfl, ?_, ?_⟩
      · simp [results, Try.results53, go_sem, cxr_0, cxr_1, fxr_0, fxr_1, l_xr_0]
      · rw [aScS_no HO, aScM_no HO]; exact OwnL.nones _ (by simp) (by first | omega | (simp [size_drew]; done) | (simp [size_drew]; omega))
      · repeat (with_reducible (first | assumption | exact Below.refl _ _ | refine Below.alloc ?_ (by first | omega | (simp; done) | (simp; omega)) _ | refine Below.setCell ?_ (by first | omega | (simp; done) | (simp; omega)) _ | refine Below.drew ?_ | refine below_drewN ?_ _))
    | true =>
      have HO : sc1 kI0 kL1 aL0 aL1 cI0 = true := by simp [sc1, k1, k2]
      go_enter Try.func53, Try.ntmps53
      go_wp2_with fail
      refine (isForm_any kI0 (RdL.b kH) kL1n _ 1 _ [(aL0, aL1)] (AuthsAt.mk1 aL0i.b aL0m aL1i.b aL1m (by simp)) (by omega)).mono ?_
      rintro e w1 ⟨rfl, b1⟩
      have z1 := b1.size
      try simp only [World.size_alloc, World.size_setCell, size_drew] at z1
      have B1 : Below w.heap.size w w1 := Below.t b1
      have xk_ : Box w1 (w.heap.size) #[.int .i64 kI0, (.slice kA1 kn1 kc1)] 33 := ((((Box.new (g := w.heap.size) _ #[.int .i64 kI0, (.slice kA1 kn1 kc1)] 33 (by simp)).alloc _).alloc _).alloc _).below b1 (by first | omega | (simp [size_drew]; done) | (simp [size_drew]; omega))
      have xk := xk_; clear xk_
      have xa_ : Box w1 (w.heap.size + 1) #[(.slice aA0 an0 ac0), (.slice aA1 an1 ac1)] 38 := (((Box.new (g := w.heap.size + 1) _ #[(.slice aA0 an0 ac0), (.slice aA1 an1 ac1)] 38 (by simp)).alloc _).alloc _).below b1 (by first | omega | (simp [size_drew]; done) | (simp [size_drew]; omega))
      have xa := xa_; clear xa_
      have xr_ : Box w1 (w.heap.size + 1 + 1) #[.slice none 0 0, .slice none 0 0] 38 := ((Box.new (g := w.heap.size + 1 + 1) _ #[.slice none 0 0, .slice none 0 0] 38 (by simp)).alloc _).below b1 (by first | omega | (simp [size_drew]; done) | (simp [size_drew]; omega))
      have xr := xr_; clear xr_
      have xlit_ : Box w1 (w.heap.size + 1 + 1 + 1) #[(.slice aA0 an0 ac0), (.slice aA1 an1 ac1)] 38 := (Box.new (g := w.heap.size + 1 + 1 + 1) _ #[(.slice aA0 an0 ac0), (.slice aA1 an1 ac1)] 38 (by simp)).below b1 (by first | omega | (simp [size_drew]; done) | (simp [size_drew]; omega))
      have xlit := xlit_; clear xlit_
      obtain ⟨cxk_0, cxk_1, fxk_0, fxk_1⟩ := xk.two
      have l_xk_0 : w.heap.size < w1.heap.size := by omega
      go_wp2_with fail
      refine (iIsElement_any _ _ _).mono ?_
      rintro e w_ ⟨rfl, rfl⟩
      obtain ⟨cxk_0, cxk_1, fxk_0, fxk_1⟩ := xk.two
      have l_xk_0 : w.heap.size < w1.heap.size := by omega
      obtain ⟨cxa_0, cxa_1, fxa_0, fxa_1⟩ := xa.two
      have l_xa_0 : w.heap.size + 1 < w1.heap.size := by omega
      go_wp2_with fail
      clear cxk_0 cxk_1 fxk_0 fxk_1 l_xk_0 cxa_0 cxa_1 fxa_0 fxa_1 l_xa_0
      refine wp_region_held_drew (S := fun W => W.cell? ⟨w.heap.size, 0, none⟩ = some (.int .i64 kI0) ∧ W.cell? ⟨w.heap.size, 1, none⟩ = some ((.slice kA1 kn1 kc1)) ∧ W.cell? ⟨w.heap.size + 1, 0, none⟩ = some ((.slice aA0 an0 ac0)) ∧ W.cell? ⟨w.heap.size + 1, 1, none⟩ = some ((.slice aA1 an1 ac1))) (by kernel_rfl) ⟨xk.drew.two.1, xk.drew.two.2.1, xa.drew.two.1, xa.drew.two.2.1⟩ (fun hS => ?_)
      (refine tk 0 hS ?_; (try simp only [Act.put, layA, layB, layC]))
      (refine tk 1 hS ?_; (try simp only [Act.put, layA, layB, layC]))
      (refine tk 2 hS ?_; (try simp only [Act.put, layA, layB, layC]))
      (refine tk 3 hS ?_; (try simp only [Act.put, layA, layB, layC]))
      (refine tk 4 hS ?_; (try simp only [Act.put, layA, layB, layC]))
      (refine tk 6 hS ?_; (try simp only [Act.put, layA, layB, layC]))
      (refine tk 7 hS ?_; (try simp only [Act.put, layA, layB, layC]))
      (refine tk 8 hS ?_; (try simp only [Act.put, layA, layB, layC]))
      (refine tk 9 hS ?_; (try simp only [Act.put, layA, layB, layC]))
      (refine tk 10 hS ?_; (try simp only [Act.put, layA, layB, layC]))
      refine on 5 ?_
      refine callH (by go_simp; (first | done | with_reducible rfl | exact ⟨rfl, rfl⟩)) ?_
      go_at_call 118
      refine (iScaleShares_L kI0 cI0 aL0i.b (by omega)).mono ?_
      rintro e w2 ⟨pA, pn, pc, rfl, r0, b2⟩
      clear hS
      have z2 := Below.size b2
      (try simp only [World.size_alloc, World.size_setCell, size_drew] at z2)
      have B2 : Below w.heap.size w w2 := Below.t b2
      have xk_ : Box w2 (w.heap.size) #[.int .i64 kI0, (.slice kA1 kn1 kc1)] 33 := (Box.b xk.drew b2)
      clear xk; have xk := xk_; clear xk_
      have xa_ : Box w2 (w.heap.size + 1) #[(.slice aA0 an0 ac0), (.slice aA1 an1 ac1)] 38 := (Box.b xa.drew b2)
      clear xa; have xa := xa_; clear xa_
      have xr_ : Box w2 (w.heap.size + 1 + 1) #[.slice none 0 0, .slice none 0 0] 38 := (Box.b xr.drew b2)
      clear xr; have xr := xr_; clear xr_
      (try simp only [World.size_alloc, World.size_setCell, size_drew] at r0)
      refine ⟨_, rfl, ⟨xk.two.1, xk.two.2.1, xa.two.1, xa.two.2.1⟩, fun hS => ?_⟩
      (try simp only [Act.put, layA, layB, layC])
      refine on 11 ?_
      refine callH (by go_simp; (first | done | with_reducible rfl | exact ⟨rfl, rfl⟩)) ?_
      go_at_call 118
      refine (iScaleShares_L kI0 cI0 aL1i.b (by omega)).mono ?_
      rintro e w3 ⟨qA, qn, qc, rfl, r1, b3⟩
      clear hS
      have z3 := Below.size b3
      (try simp only [World.size_alloc, World.size_setCell, size_drew] at z3)
      have B3 : Below w.heap.size w w3 := Below.t b3
      have r0_ := (r0.below b3)
      clear r0; have r0 := r0_; clear r0_
      have xk_ : Box w3 (w.heap.size) #[.int .i64 kI0, (.slice kA1 kn1 kc1)] 33 := (Box.b xk b3)
      clear xk; have xk := xk_; clear xk_
      have xa_ : Box w3 (w.heap.size + 1) #[(.slice aA0 an0 ac0), (.slice aA1 an1 ac1)] 38 := (Box.b xa b3)
      clear xa; have xa := xa_; clear xa_
      have xr_ : Box w3 (w.heap.size + 1 + 1) #[.slice none 0 0, .slice none 0 0] 38 := (Box.b xr b3)
      clear xr; have xr := xr_; clear xr_
      (try simp only [World.size_alloc, World.size_setCell, size_drew] at r1)
      refine ⟨_, rfl, ⟨xk.two.1, xk.two.2.1, xa.two.1, xa.two.2.1⟩, fun hS => ?_⟩
      (try simp only [Act.put, layA, layB, layC])
      (refine tk 12 hS ?_; (try simp only [Act.put, layA, layB, layC]))
      refine on 13 ?_
      obtain ⟨cxr_0, cxr_1, fxr_0, fxr_1⟩ := xr.two
      refine skipH (by go_simp; (first | done | with_reducible rfl | exact ⟨rfl, rfl⟩)) ?_ (fun hS_ => ?_)
      · exact ⟨((xk.far (by omega)).far (by omega)).two.1, ((xk.far (by omega)).far (by omega)).two.2.1, ((xa.far (by omega)).far (by omega)).two.1, ((xa.far (by omega)).far (by omega)).two.2.1⟩
      clear cxr_0 cxr_1 fxr_0 fxr_1
      clear hS
      have hS := hS_
      clear hS_
      (try simp only [Act.put, layA, layB, layC])
      clear hS
      refine wpAnyH_done (by kernel_rfl) ?_ _
      obtain ⟨cxr_0, cxr_1, fxr_0, fxr_1⟩ := xr.two
      have l_xr_0 : w.heap.size + 1 + 1 < w3.heap.size := by omega
      go_wp2
      refine bodyPost_ret (v := .agg #[.slice pA pn pc, .slice qA qn qc]) ?_ rfl ⟨_, _, _, _, _, _, rfl, ?_, ?_⟩
      · simp [results, Try.results53, go_sem, cxr_0, cxr_1, fxr_0, fxr_1, l_xr_0]
      · have R := (OwnL.then r0 r1 (by omega))
        simp only [List.cons_append, List.nil_append] at R
        rw [aScS_yes HO, aScM_yes HO]; exact OwnL.mono ((R.setBox (by omega)).setBox (by omega)) (by omega) (by first | omega | (simp [size_drew]; done) | (simp [size_drew]; omega)) (Nat.le_refl _)
      · repeat (with_reducible (first | assumption | exact Below.refl _ _ | refine Below.alloc ?_ (by first | omega | (simp; done) | (simp; omega)) _ | refine Below.setCell ?_ (by first | omega | (simp; done) | (simp; omega)) _ | refine Below.drew ?_ | refine below_drewN ?_ _))
set_option maxRecDepth 100000 in
set_option maxHeartbeats 2000000 in
theorem sAuthConst_L {kA1 : Option Addr} {kn1 kc1 : Nat} {kL1 : List Int} {aA0 : Option Addr} {an0 ac0 : Nat} {aL0 : List Int} {aA1 : Option Addr} {an1 ac1 : Nat} {aL1 : List Int} {w : World} (kI0 : Int) (kH : RdL w [((.slice kA1 kn1 kc1), .ints kL1)]) (kL1n : kL1.length ≤ 1048576) (aH : RdL w [((.slice aA0 an0 ac0), .ints aL0), ((.slice aA1 an1 ac1), .ints aL1)]) (aL0n : aL0.length ≤ 1048576) (aL1n : aL1.length ≤ 1048576) (cI0 : Int) :
    Calls Try.prog 74 #[.agg #[.int .i64 kI0, (.slice kA1 kn1 kc1)], .agg #[(.slice aA0 an0 ac0), (.slice aA1 an1 ac1)], .int .i64 cI0] w fun e w' => ∃ rA0 rn0 rc0 rA1 rn1 rc1, e = .returned (.agg #[.slice rA0 rn0 rc0, .slice rA1 rn1 rc1]) ∧ OwnL w' w.heap.size w'.heap.size [(.slice rA0 rn0 rc0, .ints (aCoS kI0 kL1 aL0 aL1 cI0)), (.slice rA1 rn1 rc1, .ints (aCoM kI0 kL1 aL0 aL1 cI0))] ∧ Below w.heap.size w w' := by
  have kL1i : Ints w kA1 kn1 kL1 := Rd.toInts (kH ((.slice kA1 kn1 kc1), .ints kL1) (by simp))
  have kL1l := Lib.hid kL1i.len
  have kL1m : kn1 ≤ 1048576 := by rw [← kL1l.out]; exact kL1n
  have aL0i : Ints w aA0 an0 aL0 := Rd.toInts (aH ((.slice aA0 an0 ac0), .ints aL0) (by simp))
  have aL0l := Lib.hid aL0i.len
  have aL0m : an0 ≤ 1048576 := by rw [← aL0l.out]; exact aL0n
  have aL1i : Ints w aA1 an1 aL1 := Rd.toInts (aH ((.slice aA1 an1 ac1), .ints aL1) (by simp))
  have aL1l := Lib.hid aL1i.len
  have aL1m : an1 ≤ 1048576 := by rw [← aL1l.out]; exact aL1n
  cases k1 : formOk kI0 kL1 aL0 aL1 with
  | false =>
    have HO : sc1 kI0 kL1 aL0 aL1 cI0 = false := by simp [sc1, k1]
    go_enter Try.func74, Try.ntmps74
    go_wp2_with fail
    refine (sl23Form_L kI0 (RdL.b kH) kL1n (RdL.b aH) aL0n aL1n).mono ?_
    rintro e w1 ⟨rfl, b1⟩
    have z1 := b1.size
    try simp only [World.size_alloc, World.size_setCell, size_drew] at z1
    have B1 : Below w.heap.size w w1 := Below.t b1
    have xk_ : Box w1 (w.heap.size) #[.int .i64 kI0, (.slice kA1 kn1 kc1)] 33 := (((Box.new (g := w.heap.size) _ #[.int .i64 kI0, (.slice kA1 kn1 kc1)] 33 (by simp)).alloc _).alloc _).below b1 (by first | omega | (simp [size_drew]; done) | (simp [size_drew]; omega))
    have xk := xk_; clear xk_
    have xa_ : Box w1 (w.heap.size + 1) #[(.slice aA0 an0 ac0), (.slice aA1 an1 ac1)] 38 := ((Box.new (g := w.heap.size + 1) _ #[(.slice aA0 an0 ac0), (.slice aA1 an1 ac1)] 38 (by simp)).alloc _).below b1 (by first | omega | (simp [size_drew]; done) | (simp [size_drew]; omega))
    have xa := xa_; clear xa_
    have xr_ : Box w1 (w.heap.size + 1 + 1) #[.slice none 0 0, .slice none 0 0] 38 := (Box.new (g := w.heap.size + 1 + 1) _ #[.slice none 0 0, .slice none 0 0] 38 (by simp)).below b1 (by first | omega | (simp [size_drew]; done) | (simp [size_drew]; omega))
    have xr := xr_; clear xr_
    obtain ⟨cxr_0, cxr_1, fxr_0, fxr_1⟩ := xr.two
    have l_xr_0 : w.heap.size + 1 + 1 < w1.heap.size := by omega
    go_wp2
    refine bodyPost_ret (v := .agg #[.slice none 0 0, .slice none 0 0]) ?_ rfl ⟨_, _, _, _, _, _, rfl, ?_, ?_⟩
    · simp [results, Try.results74, go_sem, cxr_0, cxr_1, fxr_0, fxr_1, l_xr_0]
    · rw [aCoS_no HO, aCoM_no HO]; exact OwnL.nones _ (by simp) (by first | omega | (simp [size_drew]; done) | (simp [size_drew]; omega))
    · repeat (with_reducible (first | assumption | exact Below.refl _ _ | refine Below.alloc ?_ (by first | omega | (simp; done) | (simp; omega)) _ | refine Below.setCell ?_ (by first | omega | (simp; done) | (simp; omega)) _ | refine Below.drew ?_ | refine below_drewN ?_ _))
  | true =>
    cases k2 : elem kI0 cI0 with
    | false =>
      have HO : sc1 kI0 kL1 aL0 aL1 cI0 = false := by simp [sc1, k2]
      go_enter Try.func74, Try.ntmps74
      go_wp2_with fail
      refine (sl23Form_L kI0 (RdL.b kH) kL1n (RdL.b aH) aL0n aL1n).mono ?_
      rintro e w1 ⟨rfl, b1⟩
      have z1 := b1.size
      try simp only [World.size_alloc, World.size_setCell, size_drew] at z1
      have B1 : Below w.heap.size w w1 := Below.t b1
      have xk_ : Box w1 (w.heap.size) #[.int .i64 kI0, (.slice kA1 kn1 kc1)] 33 := (((Box.new (g := w.heap.size) _ #[.int .i64 kI0, (.slice kA1 kn1 kc1)] 33 (by simp)).alloc _).alloc _).below b1 (by first | omega | (simp [size_drew]; done) | (simp [size_drew]; omega))
      have xk := xk_; clear xk_
      have xa_ : Box w1 (w.heap.size + 1) #[(.slice aA0 an0 ac0), (.slice aA1 an1 ac1)] 38 := ((Box.new (g := w.heap.size + 1) _ #[(.slice aA0 an0 ac0), (.slice aA1 an1 ac1)] 38 (by simp)).alloc _).below b1 (by first | omega | (simp [size_drew]; done) | (simp [size_drew]; omega))
      have xa := xa_; clear xa_
      have xr_ : Box w1 (w.heap.size + 1 + 1) #[.slice none 0 0, .slice none 0 0] 38 := (Box.new (g := w.heap.size + 1 + 1) _ #[.slice none 0 0, .slice none 0 0] 38 (by simp)).below b1 (by first | omega | (simp [size_drew]; done) | (simp [size_drew]; omega))
      have xr := xr_; clear xr_
      obtain ⟨cxk_0, cxk_1, fxk_0, fxk_1⟩ := xk.two
      have l_xk_0 : w.heap.size < w1.heap.size := by omega
      go_wp2_with fail
      refine (sIsElement_any _ _ _).mono ?_
      rintro e w_ ⟨rfl, rfl⟩
      obtain ⟨cxr_0, cxr_1, fxr_0, fxr_1⟩ := xr.two
      have l_xr_0 : w.heap.size + 1 + 1 < w1.heap.size := by omega
      go_wp2
      refine bodyPost_ret (v := .agg #[.slice none 0 0, .slice none 0 0]) ?_ rfl ⟨_, _, _, _, _, _, rfl, ?_, ?_⟩
      · simp [results, Try.results74, go_sem, cxr_0, cxr_1, fxr_0, fxr_1, l_xr_0]
      · rw [aCoS_no HO, aCoM_no HO]; exact OwnL.nones _ (by simp) (by first | omega | (simp [size_drew]; done) | (simp [size_drew]; omega))
      · repeat (with_reducible (first | assumption | exact Below.refl _ _ | refine Below.alloc ?_ (by first | omega | (simp; done) | (simp; omega)) _ | refine Below.setCell ?_ (by first | omega | (simp; done) | (simp; omega)) _ | refine Below.drew ?_ | refine below_drewN ?_ _))
    | true =>
      have HO : sc1 kI0 kL1 aL0 aL1 cI0 = true := by simp [sc1, k1, k2]
      go_enter Try.func74, Try.ntmps74
      go_wp2_with fail
      refine (sl23Form_L kI0 (RdL.b kH) kL1n (RdL.b aH) aL0n aL1n).mono ?_
      rintro e w1 ⟨rfl, b1⟩
      have z1 := b1.size
      try simp only [World.size_alloc, World.size_setCell, size_drew] at z1
      have B1 : Below w.heap.size w w1 := Below.t b1
      have xk_ : Box w1 (w.heap.size) #[.int .i64 kI0, (.slice kA1 kn1 kc1)] 33 := (((Box.new (g := w.heap.size) _ #[.int .i64 kI0, (.slice kA1 kn1 kc1)] 33 (by simp)).alloc _).alloc _).below b1 (by first | omega | (simp [size_drew]; done) | (simp [size_drew]; omega))
      have xk := xk_; clear xk_
      have xa_ : Box w1 (w.heap.size + 1) #[(.slice aA0 an0 ac0), (.slice aA1 an1 ac1)] 38 := ((Box.new (g := w.heap.size + 1) _ #[(.slice aA0 an0 ac0), (.slice aA1 an1 ac1)] 38 (by simp)).alloc _).below b1 (by first | omega | (simp [size_drew]; done) | (simp [size_drew]; omega))
      have xa := xa_; clear xa_
      have xr_ : Box w1 (w.heap.size + 1 + 1) #[.slice none 0 0, .slice none 0 0] 38 := (Box.new (g := w.heap.size + 1 + 1) _ #[.slice none 0 0, .slice none 0 0] 38 (by simp)).below b1 (by first | omega | (simp [size_drew]; done) | (simp [size_drew]; omega))
      have xr := xr_; clear xr_
      obtain ⟨cxk_0, cxk_1, fxk_0, fxk_1⟩ := xk.two
      have l_xk_0 : w.heap.size < w1.heap.size := by omega
      go_wp2_with fail
      refine (sIsElement_any _ _ _).mono ?_
      rintro e w_ ⟨rfl, rfl⟩
      obtain ⟨cxk_0, cxk_1, fxk_0, fxk_1⟩ := xk.two
      have l_xk_0 : w.heap.size < w1.heap.size := by omega
      obtain ⟨cxa_0, cxa_1, fxa_0, fxa_1⟩ := xa.two
      have l_xa_0 : w.heap.size + 1 < w1.heap.size := by omega
      go_wp2_with fail
      clear cxk_0 cxk_1 fxk_0 fxk_1 l_xk_0 cxa_0 cxa_1 fxa_0 fxa_1 l_xa_0
      refine wp_region_held_drew (S := fun W => W.cell? ⟨w.heap.size, 0, none⟩ = some (.int .i64 kI0) ∧ W.cell? ⟨w.heap.size, 1, none⟩ = some ((.slice kA1 kn1 kc1)) ∧ W.cell? ⟨w.heap.size + 1, 0, none⟩ = some ((.slice aA0 an0 ac0)) ∧ W.cell? ⟨w.heap.size + 1, 1, none⟩ = some ((.slice aA1 an1 ac1))) (by kernel_rfl) ⟨xk.drew.two.1, xk.drew.two.2.1, xa.drew.two.1, xa.drew.two.2.1⟩ (fun hS => ?_)
      (refine tk 0 hS ?_; (try simp only [Act.put, layA, layB, layC]))
      (refine tk 1 hS ?_; (try simp only [Act.put, layA, layB, layC]))
      (refine tk 2 hS ?_; (try simp only [Act.put, layA, layB, layC]))
      (refine tk 3 hS ?_; (try simp only [Act.put, layA, layB, layC]))
      (refine tk 4 hS ?_; (try simp only [Act.put, layA, layB, layC]))
      (refine tk 6 hS ?_; (try simp only [Act.put, layA, layB, layC]))
      (refine tk 7 hS ?_; (try simp only [Act.put, layA, layB, layC]))
      (refine tk 8 hS ?_; (try simp only [Act.put, layA, layB, layC]))
      (refine tk 9 hS ?_; (try simp only [Act.put, layA, layB, layC]))
      (refine tk 10 hS ?_; (try simp only [Act.put, layA, layB, layC]))
      (refine tk 11 hS ?_; (try simp only [Act.put, layA, layB, layC]))
      (refine tk 12 hS ?_; (try simp only [Act.put, layA, layB, layC]))
      (refine tk 13 hS ?_; (try simp only [Act.put, layA, layB, layC]))
      (refine tk 14 hS ?_; (try simp only [Act.put, layA, layB, layC]))
      refine on 5 ?_
      refine callH (by go_simp; (first | done | with_reducible rfl | exact ⟨rfl, rfl⟩)) ?_
      go_at_call 127
      refine (sAddConstant_L kI0 cI0 aL0i.b (by omega)).mono ?_
      rintro e w2 ⟨pA, pn, pc, rfl, r0, b2⟩
      clear hS
      have z2 := Below.size b2
      (try simp only [World.size_alloc, World.size_setCell, size_drew] at z2)
      have B2 : Below w.heap.size w w2 := Below.t b2
      have xk_ : Box w2 (w.heap.size) #[.int .i64 kI0, (.slice kA1 kn1 kc1)] 33 := (Box.b xk.drew b2)
      clear xk; have xk := xk_; clear xk_
      have xa_ : Box w2 (w.heap.size + 1) #[(.slice aA0 an0 ac0), (.slice aA1 an1 ac1)] 38 := (Box.b xa.drew b2)
      clear xa; have xa := xa_; clear xa_
      have xr_ : Box w2 (w.heap.size + 1 + 1) #[.slice none 0 0, .slice none 0 0] 38 := (Box.b xr.drew b2)
      clear xr; have xr := xr_; clear xr_
      (try simp only [World.size_alloc, World.size_setCell, size_drew] at r0)
      refine ⟨_, rfl, ⟨xk.two.1, xk.two.2.1, xa.two.1, xa.two.2.1⟩, fun hS => ?_⟩
      (try simp only [Act.put, layA, layB, layC])
      refine on 15 ?_
      refine callH (by go_simp; (first | done | with_reducible rfl | exact ⟨rfl, rfl⟩)) ?_
      go_at_call 117
      refine (sScaleShares_L kI0 cI0 kL1i.b (by omega)).mono ?_
      rintro e w3 ⟨mA, mn, mc, rfl, r2, b3⟩
      clear hS
      have z3 := Below.size b3
      (try simp only [World.size_alloc, World.size_setCell, size_drew] at z3)
      have B3 : Below w.heap.size w w3 := Below.t b3
      have r0_ := (r0.below b3)
      clear r0; have r0 := r0_; clear r0_
      have xk_ : Box w3 (w.heap.size) #[.int .i64 kI0, (.slice kA1 kn1 kc1)] 33 := (Box.b xk b3)
      clear xk; have xk := xk_; clear xk_
      have xa_ : Box w3 (w.heap.size + 1) #[(.slice aA0 an0 ac0), (.slice aA1 an1 ac1)] 38 := (Box.b xa b3)
      clear xa; have xa := xa_; clear xa_
      have xr_ : Box w3 (w.heap.size + 1 + 1) #[.slice none 0 0, .slice none 0 0] 38 := (Box.b xr b3)
      clear xr; have xr := xr_; clear xr_
      (try simp only [World.size_alloc, World.size_setCell, size_drew] at r2)
      refine ⟨_, rfl, ⟨xk.two.1, xk.two.2.1, xa.two.1, xa.two.2.1⟩, fun hS => ?_⟩
      (try simp only [Act.put, layA, layB, layC])
      refine on 16 ?_
      refine callH (by go_simp; (first | done | with_reducible rfl | exact ⟨rfl, rfl⟩)) ?_
      go_at_call 119
      have mI := Rd.toInts (r2.rd (.slice mA mn mc, .ints (scaleL kI0 kL1 cI0)) (by simp))
      have mn1 := mI.len
      have mn2 := scaleL_len kI0 kL1 cI0
      refine (sAddShares_L kI0 aL1i.b mI (by omega) (by omega)).mono ?_
      rintro e w4 ⟨qA, qn, qc, rfl, r1, b4⟩
      clear hS
      have z4 := Below.size b4
      (try simp only [World.size_alloc, World.size_setCell, size_drew] at z4)
      have B4 : Below w.heap.size w w4 := Below.t b4
      have r0_ := (r0.below b4)
      clear r0; have r0 := r0_; clear r0_
      have r2_ := (r2.below b4)
      clear r2; have r2 := r2_; clear r2_
      have xk_ : Box w4 (w.heap.size) #[.int .i64 kI0, (.slice kA1 kn1 kc1)] 33 := (Box.b xk b4)
      clear xk; have xk := xk_; clear xk_
      have xa_ : Box w4 (w.heap.size + 1) #[(.slice aA0 an0 ac0), (.slice aA1 an1 ac1)] 38 := (Box.b xa b4)
      clear xa; have xa := xa_; clear xa_
      have xr_ : Box w4 (w.heap.size + 1 + 1) #[.slice none 0 0, .slice none 0 0] 38 := (Box.b xr b4)
      clear xr; have xr := xr_; clear xr_
      (try simp only [World.size_alloc, World.size_setCell, size_drew] at r1)
      refine ⟨_, rfl, ⟨xk.two.1, xk.two.2.1, xa.two.1, xa.two.2.1⟩, fun hS => ?_⟩
      (try simp only [Act.put, layA, layB, layC])
      (refine tk 17 hS ?_; (try simp only [Act.put, layA, layB, layC]))
      refine on 18 ?_
      obtain ⟨cxr_0, cxr_1, fxr_0, fxr_1⟩ := xr.two
      refine skipH (by go_simp; (first | done | with_reducible rfl | exact ⟨rfl, rfl⟩)) ?_ (fun hS_ => ?_)
      · exact ⟨((xk.far (by omega)).far (by omega)).two.1, ((xk.far (by omega)).far (by omega)).two.2.1, ((xa.far (by omega)).far (by omega)).two.1, ((xa.far (by omega)).far (by omega)).two.2.1⟩
      clear cxr_0 cxr_1 fxr_0 fxr_1
      clear hS
      have hS := hS_
      clear hS_
      (try simp only [Act.put, layA, layB, layC])
      clear hS
      refine wpAnyH_done (by kernel_rfl) ?_ _
      obtain ⟨cxr_0, cxr_1, fxr_0, fxr_1⟩ := xr.two
      have l_xr_0 : w.heap.size + 1 + 1 < w4.heap.size := by omega
      go_wp2
      refine bodyPost_ret (v := .agg #[.slice pA pn pc, .slice qA qn qc]) ?_ rfl ⟨_, _, _, _, _, _, rfl, ?_, ?_⟩
      · simp [results, Try.results74, go_sem, cxr_0, cxr_1, fxr_0, fxr_1, l_xr_0]
      · have R := (OwnL.then r0 r1 (by omega))
        simp only [List.cons_append, List.nil_append] at R
        rw [aCoS_yes HO, aCoM_yes HO]; exact OwnL.mono ((R.setBox (by omega)).setBox (by omega)) (by omega) (by first | omega | (simp [size_drew]; done) | (simp [size_drew]; omega)) (Nat.le_refl _)
      · repeat (with_reducible (first | assumption | exact Below.refl _ _ | refine Below.alloc ?_ (by first | omega | (simp; done) | (simp; omega)) _ | refine Below.setCell ?_ (by first | omega | (simp; done) | (simp; omega)) _ | refine Below.drew ?_ | refine below_drewN ?_ _))
set_option maxRecDepth 100000 in
set_option maxHeartbeats 2000000 in
theorem iAuthConst_L {kA1 : Option Addr} {kn1 kc1 : Nat} {kL1 : List Int} {aA0 : Option Addr} {an0 ac0 : Nat} {aL0 : List Int} {aA1 : Option Addr} {an1 ac1 : Nat} {aL1 : List Int} {w : World} (kI0 : Int) (kH : RdL w [((.slice kA1 kn1 kc1), .ints kL1)]) (kL1n : kL1.length ≤ 1048576) (aH : RdL w [((.slice aA0 an0 ac0), .ints aL0), ((.slice aA1 an1 ac1), .ints aL1)]) (aL0n : aL0.length ≤ 1048576) (aL1n : aL1.length ≤ 1048576) (cI0 : Int) :
    Calls Try.prog 75 #[.agg #[.int .i64 kI0, (.slice kA1 kn1 kc1)], .agg #[(.slice aA0 an0 ac0), (.slice aA1 an1 ac1)], .int .i64 cI0] w fun e w' => ∃ rA0 rn0 rc0 rA1 rn1 rc1, e = .returned (.agg #[.slice rA0 rn0 rc0, .slice rA1 rn1 rc1]) ∧ OwnL w' w.heap.size w'.heap.size [(.slice rA0 rn0 rc0, .ints (aCoS kI0 kL1 aL0 aL1 cI0)), (.slice rA1 rn1 rc1, .ints (aCoM kI0 kL1 aL0 aL1 cI0))] ∧ Below w.heap.size w w' := by
  have kL1i : Ints w kA1 kn1 kL1 := Rd.toInts (kH ((.slice kA1 kn1 kc1), .ints kL1) (by simp))
  have kL1l := Lib.hid kL1i.len
  have kL1m : kn1 ≤ 1048576 := by rw [← kL1l.out]; exact kL1n
  have aL0i : Ints w aA0 an0 aL0 := Rd.toInts (aH ((.slice aA0 an0 ac0), .ints aL0) (by simp))
  have aL0l := Lib.hid aL0i.len
  have aL0m : an0 ≤ 1048576 := by rw [← aL0l.out]; exact aL0n
  have aL1i : Ints w aA1 an1 aL1 := Rd.toInts (aH ((.slice aA1 an1 ac1), .ints aL1) (by simp))
  have aL1l := Lib.hid aL1i.len
  have aL1m : an1 ≤ 1048576 := by rw [← aL1l.out]; exact aL1n
  cases k1 : formOk kI0 kL1 aL0 aL1 with
  | false =>
    have HO : sc1 kI0 kL1 aL0 aL1 cI0 = false := by simp [sc1, k1]
    have k9 : isFormB kI0 kL1 [(aL0, aL1)] = false := by rw [isFormB1]; exact k1
    go_enter Try.func75, Try.ntmps75
    go_wp2_with fail
    refine (isForm_any kI0 (RdL.b kH) kL1n _ 1 _ [(aL0, aL1)] (AuthsAt.mk1 aL0i.b aL0m aL1i.b aL1m (by simp)) (by omega)).mono ?_
    rintro e w1 ⟨rfl, b1⟩
    have z1 := b1.size
    try simp only [World.size_alloc, World.size_setCell, size_drew] at z1
    have B1 : Below w.heap.size w w1 := Below.t b1
    have xk_ : Box w1 (w.heap.size) #[.int .i64 kI0, (.slice kA1 kn1 kc1)] 33 := ((((Box.new (g := w.heap.size) _ #[.int .i64 kI0, (.slice kA1 kn1 kc1)] 33 (by simp)).alloc _).alloc _).alloc _).below b1 (by first | omega | (simp [size_drew]; done) | (simp [size_drew]; omega))
    have xk := xk_; clear xk_
    have xa_ : Box w1 (w.heap.size + 1) #[(.slice aA0 an0 ac0), (.slice aA1 an1 ac1)] 38 := (((Box.new (g := w.heap.size + 1) _ #[(.slice aA0 an0 ac0), (.slice aA1 an1 ac1)] 38 (by simp)).alloc _).alloc _).below b1 (by first | omega | (simp [size_drew]; done) | (simp [size_drew]; omega))
    have xa := xa_; clear xa_
    have xr_ : Box w1 (w.heap.size + 1 + 1) #[.slice none 0 0, .slice none 0 0] 38 := ((Box.new (g := w.heap.size + 1 + 1) _ #[.slice none 0 0, .slice none 0 0] 38 (by simp)).alloc _).below b1 (by first | omega | (simp [size_drew]; done) | (simp [size_drew]; omega))
    have xr := xr_; clear xr_
    have xlit_ : Box w1 (w.heap.size + 1 + 1 + 1) #[(.slice aA0 an0 ac0), (.slice aA1 an1 ac1)] 38 := (Box.new (g := w.heap.size + 1 + 1 + 1) _ #[(.slice aA0 an0 ac0), (.slice aA1 an1 ac1)] 38 (by simp)).below b1 (by first | omega | (simp [size_drew]; done) | (simp [size_drew]; omega))
    have xlit := xlit_; clear xlit_
    obtain ⟨cxr_0, cxr_1, fxr_0, fxr_1⟩ := xr.two
    have l_xr_0 : w.heap.size + 1 + 1 < w1.heap.size := by omega
    go_wp2
    refine bodyPost_ret (v := .agg #[.slice none 0 0, .slice none 0 0]) ?_ rfl ⟨_, _, _, _, _, _, rfl, ?_, ?_⟩
    · simp [results, Try.results75, go_sem, cxr_0, cxr_1, fxr_0, fxr_1, l_xr_0]
    · rw [aCoS_no HO, aCoM_no HO]; exact OwnL.nones _ (by simp) (by first | omega | (simp [size_drew]; done) | (simp [size_drew]; omega))
    · repeat (with_reducible (first | assumption | exact Below.refl _ _ | refine Below.alloc ?_ (by first | omega | (simp; done) | (simp; omega)) _ | refine Below.setCell ?_ (by first | omega | (simp; done) | (simp; omega)) _ | refine Below.drew ?_ | refine below_drewN ?_ _))
  | true =>
    have k9 : isFormB kI0 kL1 [(aL0, aL1)] = true := by rw [isFormB1]; exact k1
    cases k2 : elem kI0 cI0 with
    | false =>
      have HO : sc1 kI0 kL1 aL0 aL1 cI0 = false := by simp [sc1, k2]
      go_enter Try.func75, Try.ntmps75
      go_wp2_with fail
      refine (isForm_any kI0 (RdL.b kH) kL1n _ 1 _ [(aL0, aL1)] (AuthsAt.mk1 aL0i.b aL0m aL1i.b aL1m (by simp)) (by omega)).mono ?_
      rintro e w1 ⟨rfl, b1⟩
      have z1 := b1.size
      try simp only [World.size_alloc, World.size_setCell, size_drew] at z1
      have B1 : Below w.heap.size w w1 := Below.t b1
      have xk_ : Box w1 (w.heap.size) #[.int .i64 kI0, (.slice kA1 kn1 kc1)] 33 := ((((Box.new (g := w.heap.size) _ #[.int .i64 kI0, (.slice kA1 kn1 kc1)] 33 (by simp)).alloc _).alloc _).alloc _).below b1 (by first | omega | (simp [size_drew]; done) | (simp [size_drew]; omega))
      have xk := xk_; clear xk_
      have xa_ : Box w1 (w.heap.size + 1) #[(.slice aA0 an0 ac0), (.slice aA1 an1 ac1)] 38 := (((Box.new (g := w.heap.size + 1) _ #[(.slice aA0 an0 ac0), (.slice aA1 an1 ac1)] 38 (by simp)).alloc _).alloc _).below b1 (by first | omega | (simp [size_drew]; done) | (simp [size_drew]; omega))
      have xa := xa_; clear xa_
      have xr_ : Box w1 (w.heap.size + 1 + 1) #[.slice none 0 0, .slice none 0 0] 38 := ((Box.new (g := w.heap.size + 1 + 1) _ #[.slice none 0 0, .slice none 0 0] 38 (by simp)).alloc _).below b1 (by first | omega | (simp [size_drew]; done) | (simp [size_drew]; omega))
      have xr := xr_; clear xr_
      have xlit_ : Box w1 (w.heap.size + 1 + 1 + 1) #[(.slice aA0 an0 ac0), (.slice aA1 an1 ac1)] 38 := (Box.new (g := w.heap.size + 1 + 1 + 1) _ #[(.slice aA0 an0 ac0), (.slice aA1 an1 ac1)] 38 (by simp)).below b1 (by first | omega | (simp [size_drew]; done) | (simp [size_drew]; omega))
      have xlit := xlit_; clear xlit_
      obtain ⟨cxk_0, cxk_1, fxk_0, fxk_1⟩ := xk.two
      have l_xk_0 : w.heap.size < w1.heap.size := by omega
      go_wp2_with fail
      refine (iIsElement_any _ _ _).mono ?_
      rintro e w_ ⟨rfl, rfl⟩
      obtain ⟨cxr_0, cxr_1, fxr_0, fxr_1⟩ := xr.two
      have l_xr_0 : w.heap.size + 1 + 1 < w1.heap.size := by omega
      go_wp2
      refine bodyPost_ret (v := .agg #[.slice none 0 0, .slice none 0 0]) ?_ rfl ⟨_, _, _, _, _, _, rfl, ?_, ?_⟩
      · simp [results, Try.results75, go_sem, cxr_0, cxr_1, fxr_0, fxr_1, l_xr_0]
      · rw [aCoS_no HO, aCoM_no HO]; exact OwnL.nones _ (by simp) (by first | omega | (simp [size_drew]; done) | (simp [size_drew]; omega))
      · repeat (with_reducible (first | assumption | exact Below.refl _ _ | refine Below.alloc ?_ (by first | omega | (simp; done) | (simp; omega)) _ | refine Below.setCell ?_ (by first | omega | (simp; done) | (simp; omega)) _ | refine Below.drew ?_ | refine below_drewN ?_ _))
    | true =>
      have HO : sc1 kI0 kL1 aL0 aL1 cI0 = true := by simp [sc1, k1, k2]
      go_enter Try.func75, Try.ntmps75
      go_wp2_with fail
      refine (isForm_any kI0 (RdL.b kH) kL1n _ 1 _ [(aL0, aL1)] (AuthsAt.mk1 aL0i.b aL0m aL1i.b aL1m (by simp)) (by omega)).mono ?_
      rintro e w1 ⟨rfl, b1⟩
      have z1 := b1.size
      try simp only [World.size_alloc, World.size_setCell, size_drew] at z1
      have B1 : Below w.heap.size w w1 := Below.t b1
      have xk_ : Box w1 (w.heap.size) #[.int .i64 kI0, (.slice kA1 kn1 kc1)] 33 := ((((Box.new (g := w.heap.size) _ #[.int .i64 kI0, (.slice kA1 kn1 kc1)] 33 (by simp)).alloc _).alloc _).alloc _).below b1 (by first | omega | (simp [size_drew]; done) | (simp [size_drew]; omega))
      have xk := xk_; clear xk_
      have xa_ : Box w1 (w.heap.size + 1) #[(.slice aA0 an0 ac0), (.slice aA1 an1 ac1)] 38 := (((Box.new (g := w.heap.size + 1) _ #[(.slice aA0 an0 ac0), (.slice aA1 an1 ac1)] 38 (by simp)).alloc _).alloc _).below b1 (by first | omega | (simp [size_drew]; done) | (simp [size_drew]; omega))
      have xa := xa_; clear xa_
      have xr_ : Box w1 (w.heap.size + 1 + 1) #[.slice none 0 0, .slice none 0 0] 38 := ((Box.new (g := w.heap.size + 1 + 1) _ #[.slice none 0 0, .slice none 0 0] 38 (by simp)).alloc _).below b1 (by first | omega | (simp [size_drew]; done) | (simp [size_drew]; omega))
      have xr := xr_; clear xr_
      have xlit_ : Box w1 (w.heap.size + 1 + 1 + 1) #[(.slice aA0 an0 ac0), (.slice aA1 an1 ac1)] 38 := (Box.new (g := w.heap.size + 1 + 1 + 1) _ #[(.slice aA0 an0 ac0), (.slice aA1 an1 ac1)] 38 (by simp)).below b1 (by first | omega | (simp [size_drew]; done) | (simp [size_drew]; omega))
      have xlit := xlit_; clear xlit_
      obtain ⟨cxk_0, cxk_1, fxk_0, fxk_1⟩ := xk.two
      have l_xk_0 : w.heap.size < w1.heap.size := by omega
      go_wp2_with fail
      refine (iIsElement_any _ _ _).mono ?_
      rintro e w_ ⟨rfl, rfl⟩
      obtain ⟨cxk_0, cxk_1, fxk_0, fxk_1⟩ := xk.two
      have l_xk_0 : w.heap.size < w1.heap.size := by omega
      obtain ⟨cxa_0, cxa_1, fxa_0, fxa_1⟩ := xa.two
      have l_xa_0 : w.heap.size + 1 < w1.heap.size := by omega
      go_wp2_with fail
      clear cxk_0 cxk_1 fxk_0 fxk_1 l_xk_0 cxa_0 cxa_1 fxa_0 fxa_1 l_xa_0
      refine wp_region_held_drew (S := fun W => W.cell? ⟨w.heap.size, 0, none⟩ = some (.int .i64 kI0) ∧ W.cell? ⟨w.heap.size, 1, none⟩ = some ((.slice kA1 kn1 kc1)) ∧ W.cell? ⟨w.heap.size + 1, 0, none⟩ = some ((.slice aA0 an0 ac0)) ∧ W.cell? ⟨w.heap.size + 1, 1, none⟩ = some ((.slice aA1 an1 ac1))) (by kernel_rfl) ⟨xk.drew.two.1, xk.drew.two.2.1, xa.drew.two.1, xa.drew.two.2.1⟩ (fun hS => ?_)
      (refine tk 0 hS ?_; (try simp only [Act.put, layA, layB, layC]))
      (refine tk 1 hS ?_; (try simp only [Act.put, layA, layB, layC]))
      (refine tk 2 hS ?_; (try simp only [Act.put, layA, layB, layC]))
      (refine tk 3 hS ?_; (try simp only [Act.put, layA, layB, layC]))
      (refine tk 4 hS ?_; (try simp only [Act.put, layA, layB, layC]))
      (refine tk 6 hS ?_; (try simp only [Act.put, layA, layB, layC]))
      (refine tk 7 hS ?_; (try simp only [Act.put, layA, layB, layC]))
      (refine tk 8 hS ?_; (try simp only [Act.put, layA, layB, layC]))
      (refine tk 9 hS ?_; (try simp only [Act.put, layA, layB, layC]))
      (refine tk 10 hS ?_; (try simp only [Act.put, layA, layB, layC]))
      (refine tk 11 hS ?_; (try simp only [Act.put, layA, layB, layC]))
      (refine tk 12 hS ?_; (try simp only [Act.put, layA, layB, layC]))
      (refine tk 13 hS ?_; (try simp only [Act.put, layA, layB, layC]))
      (refine tk 14 hS ?_; (try simp only [Act.put, layA, layB, layC]))
      refine on 5 ?_
      refine callH (by go_simp; (first | done | with_reducible rfl | exact ⟨rfl, rfl⟩)) ?_
      go_at_call 128
      refine (iAddConstant_L kI0 cI0 aL0i.b (by omega)).mono ?_
      rintro e w2 ⟨pA, pn, pc, rfl, r0, b2⟩
      clear hS
      have z2 := Below.size b2
      (try simp only [World.size_alloc, World.size_setCell, size_drew] at z2)
      have B2 : Below w.heap.size w w2 := Below.t b2
      have xk_ : Box w2 (w.heap.size) #[.int .i64 kI0, (.slice kA1 kn1 kc1)] 33 := (Box.b xk.drew b2)
      clear xk; have xk := xk_; clear xk_
      have xa_ : Box w2 (w.heap.size + 1) #[(.slice aA0 an0 ac0), (.slice aA1 an1 ac1)] 38 := (Box.b xa.drew b2)
      clear xa; have xa := xa_; clear xa_
      have xr_ : Box w2 (w.heap.size + 1 + 1) #[.slice none 0 0, .slice none 0 0] 38 := (Box.b xr.drew b2)
      clear xr; have xr := xr_; clear xr_
      (try simp only [World.size_alloc, World.size_setCell, size_drew] at r0)
      refine ⟨_, rfl, ⟨xk.two.1, xk.two.2.1, xa.two.1, xa.two.2.1⟩, fun hS => ?_⟩
      (try simp only [Act.put, layA, layB, layC])
      refine on 15 ?_
      refine callH (by go_simp; (first | done | with_reducible rfl | exact ⟨rfl, rfl⟩)) ?_
      go_at_call 118
      refine (iScaleShares_L kI0 cI0 kL1i.b (by omega)).mono ?_
      rintro e w3 ⟨mA, mn, mc, rfl, r2, b3⟩
      clear hS
      have z3 := Below.size b3
      (try simp only [World.size_alloc, World.size_setCell, size_drew] at z3)
      have B3 : Below w.heap.size w w3 := Below.t b3
      have r0_ := (r0.below b3)
      clear r0; have r0 := r0_; clear r0_
      have xk_ : Box w3 (w.heap.size) #[.int .i64 kI0, (.slice kA1 kn1 kc1)] 33 := (Box.b xk b3)
      clear xk; have xk := xk_; clear xk_
      have xa_ : Box w3 (w.heap.size + 1) #[(.slice aA0 an0 ac0), (.slice aA1 an1 ac1)] 38 := (Box.b xa b3)
      clear xa; have xa := xa_; clear xa_
      have xr_ : Box w3 (w.heap.size + 1 + 1) #[.slice none 0 0, .slice none 0 0] 38 := (Box.b xr b3)
      clear xr; have xr := xr_; clear xr_
      (try simp only [World.size_alloc, World.size_setCell, size_drew] at r2)
      refine ⟨_, rfl, ⟨xk.two.1, xk.two.2.1, xa.two.1, xa.two.2.1⟩, fun hS => ?_⟩
      (try simp only [Act.put, layA, layB, layC])
      refine on 16 ?_
      refine callH (by go_simp; (first | done | with_reducible rfl | exact ⟨rfl, rfl⟩)) ?_
      go_at_call 120
      have mI := Rd.toInts (r2.rd (.slice mA mn mc, .ints (scaleL kI0 kL1 cI0)) (by simp))
      have mn1 := mI.len
      have mn2 := scaleL_len kI0 kL1 cI0
      refine (iAddShares_L kI0 aL1i.b mI (by omega) (by omega)).mono ?_
      rintro e w4 ⟨qA, qn, qc, rfl, r1, b4⟩
      clear hS
      have z4 := Below.size b4
      (try simp only [World.size_alloc, World.size_setCell, size_drew] at z4)
      have B4 : Below w.heap.size w w4 := Below.t b4
      have r0_ := (r0.below b4)
      clear r0; have r0 := r0_; clear r0_
      have r2_ := (r2.below b4)
      clear r2; have r2 := r2_; clear r2_
      have xk_ : Box w4 (w.heap.size) #[.int .i64 kI0, (.slice kA1 kn1 kc1)] 33 := (Box.b xk b4)
      clear xk; have xk := xk_; clear xk_
      have xa_ : Box w4 (w.heap.size + 1) #[(.slice aA0 an0 ac0), (.slice aA1 an1 ac1)] 38 := (Box.b xa b4)
      clear xa; have xa := xa_; clear xa_
      have xr_ : Box w4 (w.heap.size + 1 + 1) #[.slice none 0 0, .slice none 0 0] 38 := (Box.b xr b4)
      clear xr; have xr := xr_; clear xr_
      (try simp only [World.size_alloc, World.size_setCell, size_drew] at r1)
      refine ⟨_, rfl, ⟨xk.two.1, xk.two.2.1, xa.two.1, xa.two.2.1⟩, fun hS => ?_⟩
      (try simp only [Act.put, layA, layB, layC])
      (refine tk 17 hS ?_; (try simp only [Act.put, layA, layB, layC]))
      refine on 18 ?_
      obtain ⟨cxr_0, cxr_1, fxr_0, fxr_1⟩ := xr.two
      refine skipH (by go_simp; (first | done | with_reducible rfl | exact ⟨rfl, rfl⟩)) ?_ (fun hS_ => ?_)
      · exact ⟨((xk.far (by omega)).far (by omega)).two.1, ((xk.far (by omega)).far (by omega)).two.2.1, ((xa.far (by omega)).far (by omega)).two.1, ((xa.far (by omega)).far (by omega)).two.2.1⟩
      clear cxr_0 cxr_1 fxr_0 fxr_1
      clear hS
      have hS := hS_
      clear hS_
      (try simp only [Act.put, layA, layB, layC])
      clear hS
      refine wpAnyH_done (by kernel_rfl) ?_ _
      obtain ⟨cxr_0, cxr_1, fxr_0, fxr_1⟩ := xr.two
      have l_xr_0 : w.heap.size + 1 + 1 < w4.heap.size := by omega
      go_wp2
      refine bodyPost_ret (v := .agg #[.slice pA pn pc, .slice qA qn qc]) ?_ rfl ⟨_, _, _, _, _, _, rfl, ?_, ?_⟩
      · simp [results, Try.results75, go_sem, cxr_0, cxr_1, fxr_0, fxr_1, l_xr_0]
      · have R := (OwnL.then r0 r1 (by omega))
        simp only [List.cons_append, List.nil_append] at R
        rw [aCoS_yes HO, aCoM_yes HO]; exact OwnL.mono ((R.setBox (by omega)).setBox (by omega)) (by omega) (by first | omega | (simp [size_drew]; done) | (simp [size_drew]; omega)) (Nat.le_refl _)
      · repeat (with_reducible (first | assumption | exact Below.refl _ _ | refine Below.alloc ?_ (by first | omega | (simp; done) | (simp; omega)) _ | refine Below.setCell ?_ (by first | omega | (simp; done) | (simp; omega)) _ | refine Below.drew ?_ | refine below_drewN ?_ _))
end Go.Proofs.Ytllnnbmgdbinnaa

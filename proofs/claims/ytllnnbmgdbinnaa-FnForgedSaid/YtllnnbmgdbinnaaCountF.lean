/- Contracts of CountForgeries and CountViews, the program's and the reference's. -/
import Derived.Test.YtllnnbmgdbinnaaFldG
namespace Go.Proofs.Ytllnnbmgdbinnaa
set_option linter.unusedSimpArgs false
set_option linter.unusedVariables false
open Go.RowKit
set_option maxRecDepth 100000 in
theorem sCountForgeries_L {w : World} (p e c : Int) :
    Calls Try.prog 26 #[.int .i64 p, .int .i64 e, .int .i64 c] w fun e' w' => e' = .returned (.int .i64 (countForg p e c)) ∧ Below w.heap.size w w' := by
  cases h : (elem p e && elem p c) with
  | true =>
    obtain ⟨⟨p1, p2⟩, ⟨e1, e2⟩, c1, c2⟩ := elems h
    have HE := Lib.hid (show countForg p e c = (cnt (forgB p e c) p.toNat : Nat) by simp [countForg, h])
    go_enter Try.func26, Try.ntmps26
    go_wp2_with fail
    refine (l03Both_any _ _ _ _).mono ?_
    rintro e' w' ⟨rfl, rfl⟩
    go_wp2
    go_loop [7, 8] (fun s i => ∃ k : Nat, (k : Int) ≤ p ∧ i = .int .i64 k ∧ s = .int .i64 (cnt (forgB p e c) k : Nat)) (fun _ i => p.toNat - (intOf i).toNat)
    case atStart => exact ⟨0, by omega, rfl, rfl⟩
    case round =>
      obtain ⟨k, hk, rfl, rfl⟩ := hrel
      have hcl := cnt_le (forgB p e c) k
      by_cases hlt : (k : Int) < p
      · obtain ⟨m1, m2⟩ := mul_bd (a := k) (b := e) (by omega) hlt e1 e2 p2
        cases hB : forgB p e c k with
        | true =>
          have ht : ((k : Int) * e % p == c) = true := hB
          have hu := Lib.hid (cnt_up hB)
          clear hB
          go_wp2
          go_round
          case rel => exact ⟨k + 1, by omega, by go_num, by rw [hu.out]; go_num⟩
          case measure => simp [intOf]; omega
        | false =>
          have ht : ((k : Int) * e % p == c) = false := hB
          have hu := Lib.hid (cnt_same hB)
          clear hB
          go_wp2
          go_round
          case rel => exact ⟨k + 1, by omega, by go_num, by rw [hu.out]⟩
          case measure => simp [intOf]; omega
      · go_wp2
        go_ret
        exact ⟨ret_int (by rw [HE.out, show p.toNat = k by omega]), Below.refl _ _⟩
  | false =>
    have HE := Lib.hid (show countForg p e c = -1 by simp [countForg, h])
    go_enter Try.func26, Try.ntmps26
    go_wp2_with fail
    refine (l03Both_any _ _ _ _).mono ?_
    rintro e' w' ⟨rfl, rfl⟩
    go_wp2
    go_ret
    exact ⟨ret_int HE.out.symm, Below.refl _ _⟩
set_option maxRecDepth 100000 in
theorem iCountForgeries_L {w : World} (p e c : Int) :
    Calls Try.prog 27 #[.int .i64 p, .int .i64 e, .int .i64 c] w fun e' w' => e' = .returned (.int .i64 (countForg p e c)) ∧ Below w.heap.size w w' := by
  have HE := Lib.hid (countForg_eq p e c)
  have HT := Lib.hid (allEl_two p e c)
  cases h : (elem p e && elem p c) with
  | true =>
    have h2 : allEl p [e, c] = true := by rw [HT.out, h]
    by_cases h0 : e = 0
    · have n0 : (e != 0) = false := by simp [h0]
      by_cases c0 : c = 0
      · have n1 : (c == 0) = true := by simp [c0]
        have HR := Lib.hid (show countForg p e c = p by rw [HE.out, h]; simp [h0, c0])
        clear h h0 c0
        go_enter Try.func27, Try.ntmps27
        go_wp2_with fail
        refine (areElements_any _ _ 2 _ [e, c] _ (Ints.new _ [e, c] _ rfl rfl) (by omega)).mono ?_
        rintro e' w' ⟨rfl, rfl⟩
        go_wp2
        go_ret
        exact ⟨ret_int HR.out.symm, (Below.refl _ _).alloc (Nat.le_refl _) _⟩
      · have n1 : (c == 0) = false := by simp [c0]
        have HR := Lib.hid (show countForg p e c = 0 by rw [HE.out, h]; simp [h0, c0])
        clear h h0 c0
        go_enter Try.func27, Try.ntmps27
        go_wp2_with fail
        refine (areElements_any _ _ 2 _ [e, c] _ (Ints.new _ [e, c] _ rfl rfl) (by omega)).mono ?_
        rintro e' w' ⟨rfl, rfl⟩
        go_wp2
        go_ret
        exact ⟨ret_int HR.out.symm, (Below.refl _ _).alloc (Nat.le_refl _) _⟩
    · have n0 : (e != 0) = true := by simp [h0]
      have HR := Lib.hid (show countForg p e c = 1 by rw [HE.out, h]; simp [h0])
      clear h h0
      go_enter Try.func27, Try.ntmps27
      go_wp2_with fail
      refine (areElements_any _ _ 2 _ [e, c] _ (Ints.new _ [e, c] _ rfl rfl) (by omega)).mono ?_
      rintro e' w' ⟨rfl, rfl⟩
      go_wp2
      go_ret
      exact ⟨ret_int HR.out.symm, (Below.refl _ _).alloc (Nat.le_refl _) _⟩
  | false =>
    have h2 : allEl p [e, c] = false := by rw [HT.out, h]
    have HR := Lib.hid (show countForg p e c = -1 by simp [countForg, h])
    clear h
    go_enter Try.func27, Try.ntmps27
    go_wp2_with fail
    refine (areElements_any _ _ 2 _ [e, c] _ (Ints.new _ [e, c] _ rfl rfl) (by omega)).mono ?_
    rintro e' w' ⟨rfl, rfl⟩
    go_wp2
    go_ret
    exact ⟨ret_int HR.out.symm, (Below.refl _ _).alloc (Nat.le_refl _) _⟩
set_option maxRecDepth 100000 in
theorem sCountViews_L {w : World} (p x d : Int) :
    Calls Try.prog 28 #[.int .i64 p, .int .i64 x, .int .i64 d] w fun e' w' => e' = .returned (.int .i64 (countViews p x d)) ∧ Below w.heap.size w w' := by
  cases h : (elem p x && elem p d) with
  | true =>
    obtain ⟨⟨p1, p2⟩, ⟨e1, e2⟩, c1, c2⟩ := elems h
    have HE := Lib.hid (show countViews p x d = (cnt (viewB p x d) p.toNat : Nat) by simp [countViews, h])
    go_enter Try.func28, Try.ntmps28
    go_wp2_with fail
    refine (l03Both_any _ _ _ _).mono ?_
    rintro e' w' ⟨rfl, rfl⟩
    go_wp2
    go_loop [7, 8] (fun s i => ∃ k : Nat, (k : Int) ≤ p ∧ i = .int .i64 k ∧ s = .int .i64 (cnt (viewB p x d) k : Nat)) (fun _ i => p.toNat - (intOf i).toNat)
    case atStart => exact ⟨0, by omega, rfl, rfl⟩
    case round =>
      obtain ⟨k, hk, rfl, rfl⟩ := hrel
      have hcl := cnt_le (viewB p x d) k
      by_cases hlt : (k : Int) < p
      · go_wp2_with fail
        refine (sFSub_any _ _ _ _).mono ?_
        rintro e' w' ⟨rfl, rfl⟩
        cases hB : viewB p x d k with
        | true =>
          have ht : (fsub p x k == d) = true := hB
          have hu := Lib.hid (cnt_up hB)
          clear hB
          go_wp2
          go_round
          case rel => exact ⟨k + 1, by omega, by go_num, by rw [hu.out]; go_num⟩
          case measure => simp [intOf]; omega
        | false =>
          have ht : (fsub p x k == d) = false := hB
          have hu := Lib.hid (cnt_same hB)
          clear hB
          go_wp2
          go_round
          case rel => exact ⟨k + 1, by omega, by go_num, by rw [hu.out]⟩
          case measure => simp [intOf]; omega
      · go_wp2
        go_ret
        exact ⟨ret_int (by rw [HE.out, show p.toNat = k by omega]), Below.refl _ _⟩
  | false =>
    have HE := Lib.hid (show countViews p x d = -1 by simp [countViews, h])
    go_enter Try.func28, Try.ntmps28
    go_wp2_with fail
    refine (l03Both_any _ _ _ _).mono ?_
    rintro e' w' ⟨rfl, rfl⟩
    go_wp2
    go_ret
    exact ⟨ret_int HE.out.symm, Below.refl _ _⟩
set_option maxRecDepth 100000 in
theorem iCountViews_L {w : World} (p x d : Int) :
    Calls Try.prog 29 #[.int .i64 p, .int .i64 x, .int .i64 d] w fun e' w' => e' = .returned (.int .i64 (countViews p x d)) ∧ Below w.heap.size w w' := by
  have HE := Lib.hid (countViews_eq p x d)
  have HT := Lib.hid (allEl_two p x d)
  cases h : (elem p x && elem p d) with
  | true =>
    have h2 : allEl p [x, d] = true := by rw [HT.out, h]
    have HR := Lib.hid (show countViews p x d = 1 by rw [HE.out, h]; rfl)
    clear h
    go_enter Try.func29, Try.ntmps29
    go_wp2_with fail
    refine (areElements_any _ _ 2 _ [x, d] _ (Ints.new _ [x, d] _ rfl rfl) (by omega)).mono ?_
    rintro e' w' ⟨rfl, rfl⟩
    go_wp2
    go_ret
    exact ⟨ret_int HR.out.symm, (Below.refl _ _).alloc (Nat.le_refl _) _⟩
  | false =>
    have h2 : allEl p [x, d] = false := by rw [HT.out, h]
    have HR := Lib.hid (show countViews p x d = -1 by simp [countViews, h])
    clear h
    go_enter Try.func29, Try.ntmps29
    go_wp2_with fail
    refine (areElements_any _ _ 2 _ [x, d] _ (Ints.new _ [x, d] _ rfl rfl) (by omega)).mono ?_
    rintro e' w' ⟨rfl, rfl⟩
    go_wp2
    go_ret
    exact ⟨ret_int HR.out.symm, (Below.refl _ _).alloc (Nat.le_refl _) _⟩
end Go.Proofs.Ytllnnbmgdbinnaa

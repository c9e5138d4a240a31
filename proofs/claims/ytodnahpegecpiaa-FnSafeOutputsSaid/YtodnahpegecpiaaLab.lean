/- Contracts of the labels' functions, the program's and the reference's: HashLabel, LabelFor, EvalAnd. -/
import Derived.Test.YtodnahpegecpiaaKeyed
namespace Go.Proofs.Ytodnahpegecpiaa
set_option linter.unusedSimpArgs false
set_option linter.unusedVariables false
open Go.RowKit
/-- The hash of a label; -1 where an argument is none. -/
def hashI (x n : Int) : Int := if lab x && inB n 0 1000000 then keyedI 77 n x % 65536 else -1
theorem mask16 {k : Int} (h : 0 ≤ k ∧ k < 4294967296) : bits .and .i64 k 65535 = k % 65536 := by
  obtain ⟨K, rfl⟩ := Int.eq_ofNat_of_zero_le h.1
  have e := andN K 65535 (by omega) (by omega)
  have e2 : K &&& 65535 = K % 65536 := Nat.and_two_pow_sub_one_eq_mod _ 16
  rw [e2] at e
  rw [show bits .and .i64 (K : Int) 65535 = bits .and .i64 (K : Int) ((65535 : Nat) : Int) from rfl, e]
  omega
theorem lab_iff {x : Int} : lab x = true ↔ 0 ≤ x ∧ x ≤ 65535 := inB_iff
theorem hash_lab {x n : Int} (h : lab x = true) (hn : inB n 0 1000000 = true) : lab (hashI x n) = true := by
  obtain ⟨h1, h2⟩ := keyedI_bd 77 n x
  rw [hashI, h, hn]; simp only [Bool.and_self, if_true]; exact lab_iff.2 ⟨by omega, by omega⟩
/-- The lowest bit. -/
def bit0 (x : Int) : Int := bits .and .i64 x 1
theorem bit0_lab {x : Int} (h : lab x = true) : bit0 x = x % 2 := by
  obtain ⟨h1, h2⟩ := lab_iff.1 h
  obtain ⟨n, rfl⟩ := Int.eq_ofNat_of_zero_le h1
  rw [bit0, and1 n (by omega)]; omega
theorem bit0_or {x : Int} (h : lab x = true) : bit0 x = 0 ∨ bit0 x = 1 := by rw [bit0_lab h]; omega
/-- The exclusive or of labels. -/
def xo (a b : Int) : Int := bits .xor .i64 a b
theorem xo_nat {a b : Nat} (ha : a ≤ 65535) (hb : b ≤ 65535) : xo a b = ((a ^^^ b : Nat) : Int) := xorN a b (by omega) (by omega)
theorem lab_nat {x : Int} (h : lab x = true) : ∃ n : Nat, x = n ∧ n ≤ 65535 := by
  obtain ⟨h1, h2⟩ := lab_iff.1 h
  obtain ⟨n, rfl⟩ := Int.eq_ofNat_of_zero_le h1
  exact ⟨n, rfl, by omega⟩
theorem xo_lab {a b : Int} (ha : lab a = true) (hb : lab b = true) : lab (xo a b) = true := by
  obtain ⟨m, rfl, hm⟩ := lab_nat ha
  obtain ⟨n, rfl, hn⟩ := lab_nat hb
  rw [xo_nat hm hn]
  have := Nat.xor_lt_two_pow (n := 16) (show m < 2 ^ 16 by omega) (show n < 2 ^ 16 by omega)
  exact lab_iff.2 ⟨by omega, by omega⟩
/-- x if the bit is set; x if the label's lowest bit is set. -/
def sel1 (b x : Int) : Int := if b = 1 then x else 0
def sel (b x : Int) : Int := sel1 (bit0 b) x
theorem sel_mul {b : Int} (h : lab b = true) (x : Int) : bit0 b * x = sel b x := by
  unfold sel sel1; rcases bit0_or h with e | e <;> simp [e]
theorem sel_lab {b x : Int} (h : lab x = true) : lab (sel b x) = true := by
  unfold sel sel1; split
  · exact h
  · decide
def labelFor (z d v : Int) : Int := if lab z && lab d && inB v 0 1 then (if v = 1 then xo z d else z) else -1
def evAndOk (a b g e n : Int) : Bool := lab a && lab b && lab g && lab e && inB n 0 6000
def evAnd (a b g e n : Int) : Int := if evAndOk a b g e n then xo (xo (xo (hashI a (2 * n)) (hashI b (2 * n + 1))) (sel a g)) (sel b (xo e a)) else -1
theorem sIsLabel_any (a : Int) (w : World) :
    Calls Try.prog 95 #[.int .i64 a] w fun e w' => e = .returned (.bool (lab a)) ∧ w = w' := by
  go_enter Try.func95, Try.ntmps95
  go_wp2_with (go_at_call 96; refine (l01In_any _ _ _ _).mono ?_; rintro e w' ⟨rfl, rfl⟩)
  go_ret
  exact ⟨rfl, rfl⟩
theorem iHashLabel_any (x n : Int) (w : World) :
    Calls Try.prog 88 #[.int .i64 x, .int .i64 n] w fun e w' => e = .returned (.int .i64 (hashI x n)) ∧ w = w' := by
  have hb := keyedI_bd 77 n x
  obtain ⟨hb1, hb2⟩ := hb
  go_enter Try.func88, Try.ntmps88
  go_wp2_with (first | (go_at_call 100; refine (within_any _ _ _ _).mono ?_; rintro e w' ⟨rfl, rfl⟩) | (go_at_call 104; refine (iIsLabel_any _ _).mono ?_; rintro e w' ⟨rfl, rfl⟩) | (go_at_call 119; refine (iKeyed_any _ _ _ _).mono ?_; rintro e w' ⟨rfl, rfl⟩))
  all_goals (go_ret; go_tidy; exact ⟨ret_int (by simp_all [hashI] <;> (intros; simp_all)), rfl⟩)
theorem sHashLabel_any (x n : Int) (w : World) :
    Calls Try.prog 98 #[.int .i64 x, .int .i64 n] w fun e w' => e = .returned (.int .i64 (hashI x n)) ∧ w = w' := by
  have hm := mask16 (keyedI_bd 77 n x)
  go_enter Try.func98, Try.ntmps98
  go_wp2_with (first | (go_at_call 96; refine (l01In_any _ _ _ _).mono ?_; rintro e w' ⟨rfl, rfl⟩) | (go_at_call 95; refine (sIsLabel_any _ _).mono ?_; rintro e w' ⟨rfl, rfl⟩) | (go_at_call 121; refine (sKeyed_any _ _ _ _).mono ?_; rintro e w' ⟨rfl, rfl⟩))
  all_goals (go_ret; go_tidy; exact ⟨ret_int (by simp_all [hashI] <;> (intros; simp_all)), rfl⟩)
theorem l20Hash_any (x : Int) (w : World) :
    Calls Try.prog 101 #[.int .i64 x] w fun e w' => e = .returned (.int .i64 (hashI x 999999)) ∧ w = w' := by
  go_enter Try.func101, Try.ntmps101
  go_wp2_with (go_at_call 98; refine (sHashLabel_any _ _ _).mono ?_; rintro e w' ⟨rfl, rfl⟩)
  go_ret
  exact ⟨rfl, rfl⟩
theorem l18If_any (b x : Int) (w : World) :
    Calls Try.prog 99 #[.int .i64 b, .int .i64 x] w fun e w' => e = .returned (.int .i64 (sel1 b x)) ∧ w = w' := by
  go_enter Try.func99, Try.ntmps99
  go_wp2
  all_goals (go_ret; go_tidy; exact ⟨ret_int (by simp_all [sel1]), rfl⟩)
theorem sLabelFor_any (z d v : Int) (w : World) :
    Calls Try.prog 29 #[.int .i64 z, .int .i64 d, .int .i64 v] w fun e w' => e = .returned (.int .i64 (labelFor z d v)) ∧ w = w' := by
  go_enter Try.func29, Try.ntmps29
  go_wp2_with (first | (go_at_call 96; refine (l01In_any _ _ _ _).mono ?_; rintro e w' ⟨rfl, rfl⟩) | (go_at_call 95; refine (sIsLabel_any _ _).mono ?_; rintro e w' ⟨rfl, rfl⟩))
  all_goals (go_ret; go_tidy; exact ⟨ret_int (by simp_all [labelFor, xo] <;> (intros; simp_all)), rfl⟩)
theorem iLabelFor_any (z d v : Int) (w : World) :
    Calls Try.prog 90 #[.int .i64 z, .int .i64 d, .int .i64 v] w fun e w' => e = .returned (.int .i64 (labelFor z d v)) ∧ Below w.heap.size w w' := by
  have hl : allLab [z, d] = (lab z && lab d) := by simp [allLab]
  have hl' := Lib.hid hl
  cases h1 : (lab z && lab d) with
  | false =>
    have hE := Lib.hid (show labelFor z d v = -1 by simp [labelFor, h1])
    rw [h1] at hl
    go_enter Try.func90, Try.ntmps90
    go_wp2_with (first | (go_at_call 100; refine (within_any _ _ _ _).mono ?_; rintro e w' ⟨rfl, rfl⟩) | (go_at_call 91; refine (areLabels_any _ 2 _ [z, d] _ (Ints.new _ [z, d] _ (by simp) rfl) (by omega)).mono ?_; rintro e w' ⟨rfl, rfl⟩))
    go_ret
    refine ⟨ret_int hE.out.symm, ?_⟩
    repeat (first | exact Below.refl _ _ | refine Below.alloc ?_ (by first | omega | (simp; done) | (simp; omega)) _ | refine Below.setCell ?_ (by first | omega | (simp; done) | (simp; omega)) _ | refine Below.drew ?_ | refine below_drewN ?_ _ | refine Below.trans ?_ (hb30.mono (by first | omega | (simp; done) | (simp; omega))) | refine Below.trans ?_ (hb29.mono (by first | omega | (simp; done) | (simp; omega))) | refine Below.trans ?_ (hb28.mono (by first | omega | (simp; done) | (simp; omega))) | refine Below.trans ?_ (hb27.mono (by first | omega | (simp; done) | (simp; omega))) | refine Below.trans ?_ (hb26.mono (by first | omega | (simp; done) | (simp; omega))) | refine Below.trans ?_ (hb25.mono (by first | omega | (simp; done) | (simp; omega))) | refine Below.trans ?_ (hb24.mono (by first | omega | (simp; done) | (simp; omega))) | refine Below.trans ?_ (hb23.mono (by first | omega | (simp; done) | (simp; omega))) | refine Below.trans ?_ (hb22.mono (by first | omega | (simp; done) | (simp; omega))) | refine Below.trans ?_ (hb21.mono (by first | omega | (simp; done) | (simp; omega))) | refine Below.trans ?_ (hb20.mono (by first | omega | (simp; done) | (simp; omega))) | refine Below.trans ?_ (hb19.mono (by first | omega | (simp; done) | (simp; omega))) | refine Below.trans ?_ (hb18.mono (by first | omega | (simp; done) | (simp; omega))) | refine Below.trans ?_ (hb17.mono (by first | omega | (simp; done) | (simp; omega))) | refine Below.trans ?_ (hb16.mono (by first | omega | (simp; done) | (simp; omega))) | refine Below.trans ?_ (hb15.mono (by first | omega | (simp; done) | (simp; omega))) | refine Below.trans ?_ (hb14.mono (by first | omega | (simp; done) | (simp; omega))) | refine Below.trans ?_ (hb13.mono (by first | omega | (simp; done) | (simp; omega))) | refine Below.trans ?_ (hb12.mono (by first | omega | (simp; done) | (simp; omega))) | refine Below.trans ?_ (hb11.mono (by first | omega | (simp; done) | (simp; omega))) | refine Below.trans ?_ (hb10.mono (by first | omega | (simp; done) | (simp; omega))) | refine Below.trans ?_ (hb9.mono (by first | omega | (simp; done) | (simp; omega))) | refine Below.trans ?_ (hb8.mono (by first | omega | (simp; done) | (simp; omega))) | refine Below.trans ?_ (hb7.mono (by first | omega | (simp; done) | (simp; omega))) | refine Below.trans ?_ (hb6.mono (by first | omega | (simp; done) | (simp; omega))) | refine Below.trans ?_ (hb5.mono (by first | omega | (simp; done) | (simp; omega))) | refine Below.trans ?_ (hb4.mono (by first | omega | (simp; done) | (simp; omega))) | refine Below.trans ?_ (hb3.mono (by first | omega | (simp; done) | (simp; omega))) | refine Below.trans ?_ (hb2.mono (by first | omega | (simp; done) | (simp; omega))) | refine Below.trans ?_ (hb1.mono (by first | omega | (simp; done) | (simp; omega))))
  | true =>
    rw [h1] at hl
    cases h2 : inB v 0 1 with
    | false =>
      have hE := Lib.hid (show labelFor z d v = -1 by simp [labelFor, h2])
      go_enter Try.func90, Try.ntmps90
      go_wp2_with (first | (go_at_call 100; refine (within_any _ _ _ _).mono ?_; rintro e w' ⟨rfl, rfl⟩) | (go_at_call 91; refine (areLabels_any _ 2 _ [z, d] _ (Ints.new _ [z, d] _ (by simp) rfl) (by omega)).mono ?_; rintro e w' ⟨rfl, rfl⟩))
      go_ret
      refine ⟨ret_int hE.out.symm, ?_⟩
      repeat (first | exact Below.refl _ _ | refine Below.alloc ?_ (by first | omega | (simp; done) | (simp; omega)) _ | refine Below.setCell ?_ (by first | omega | (simp; done) | (simp; omega)) _ | refine Below.drew ?_ | refine below_drewN ?_ _ | refine Below.trans ?_ (hb30.mono (by first | omega | (simp; done) | (simp; omega))) | refine Below.trans ?_ (hb29.mono (by first | omega | (simp; done) | (simp; omega))) | refine Below.trans ?_ (hb28.mono (by first | omega | (simp; done) | (simp; omega))) | refine Below.trans ?_ (hb27.mono (by first | omega | (simp; done) | (simp; omega))) | refine Below.trans ?_ (hb26.mono (by first | omega | (simp; done) | (simp; omega))) | refine Below.trans ?_ (hb25.mono (by first | omega | (simp; done) | (simp; omega))) | refine Below.trans ?_ (hb24.mono (by first | omega | (simp; done) | (simp; omega))) | refine Below.trans ?_ (hb23.mono (by first | omega | (simp; done) | (simp; omega))) | refine Below.trans ?_ (hb22.mono (by first | omega | (simp; done) | (simp; omega))) | refine Below.trans ?_ (hb21.mono (by first | omega | (simp; done) | (simp; omega))) | refine Below.trans ?_ (hb20.mono (by first | omega | (simp; done) | (simp; omega))) | refine Below.trans ?_ (hb19.mono (by first | omega | (simp; done) | (simp; omega))) | refine Below.trans ?_ (hb18.mono (by first | omega | (simp; done) | (simp; omega))) | refine Below.trans ?_ (hb17.mono (by first | omega | (simp; done) | (simp; omega))) | refine Below.trans ?_ (hb16.mono (by first | omega | (simp; done) | (simp; omega))) | refine Below.trans ?_ (hb15.mono (by first | omega | (simp; done) | (simp; omega))) | refine Below.trans ?_ (hb14.mono (by first | omega | (simp; done) | (simp; omega))) | refine Below.trans ?_ (hb13.mono (by first | omega | (simp; done) | (simp; omega))) | refine Below.trans ?_ (hb12.mono (by first | omega | (simp; done) | (simp; omega))) | refine Below.trans ?_ (hb11.mono (by first | omega | (simp; done) | (simp; omega))) | refine Below.trans ?_ (hb10.mono (by first | omega | (simp; done) | (simp; omega))) | refine Below.trans ?_ (hb9.mono (by first | omega | (simp; done) | (simp; omega))) | refine Below.trans ?_ (hb8.mono (by first | omega | (simp; done) | (simp; omega))) | refine Below.trans ?_ (hb7.mono (by first | omega | (simp; done) | (simp; omega))) | refine Below.trans ?_ (hb6.mono (by first | omega | (simp; done) | (simp; omega))) | refine Below.trans ?_ (hb5.mono (by first | omega | (simp; done) | (simp; omega))) | refine Below.trans ?_ (hb4.mono (by first | omega | (simp; done) | (simp; omega))) | refine Below.trans ?_ (hb3.mono (by first | omega | (simp; done) | (simp; omega))) | refine Below.trans ?_ (hb2.mono (by first | omega | (simp; done) | (simp; omega))) | refine Below.trans ?_ (hb1.mono (by first | omega | (simp; done) | (simp; omega))))
    | true =>
      obtain ⟨v1, v2⟩ := inB_iff.1 h2
      obtain ⟨zl, dl⟩ : lab z = true ∧ lab d = true := by simpa using h1
      obtain ⟨d1, d2⟩ := lab_iff.1 dl
      have hE : labelFor z d v = if v = 1 then xo z d else z := by simp [labelFor, h1, h2]
      have zz : xo z 0 = z := by obtain ⟨m, rfl, hm⟩ := lab_nat zl; have := xo_nat hm (Nat.zero_le 65535); simpa using this
      have hE2 := Lib.hid (show labelFor z d v = bits .xor .i64 z (v * d) by
        rw [hE]
        rcases (show v = 0 ∨ v = 1 by omega) with rfl | rfl
        · simp only [Int.zero_mul]; exact zz.symm
        · simp only [Int.one_mul]; rfl)
      have hb1 : 0 ≤ v * d := Int.mul_nonneg v1 d1
      have hb2 : v * d ≤ 65535 := by rcases (show v = 0 ∨ v = 1 by omega) with rfl | rfl <;> omega
      clear hE zz
      go_enter Try.func90, Try.ntmps90
      go_wp2_with (first | (go_at_call 100; refine (within_any _ _ _ _).mono ?_; rintro e w' ⟨rfl, rfl⟩) | (go_at_call 91; refine (areLabels_any _ 2 _ [z, d] _ (Ints.new _ [z, d] _ (by simp) rfl) (by omega)).mono ?_; rintro e w' ⟨rfl, rfl⟩))
      go_ret
      refine ⟨ret_int hE2.out.symm, ?_⟩
      repeat (first | exact Below.refl _ _ | refine Below.alloc ?_ (by first | omega | (simp; done) | (simp; omega)) _ | refine Below.setCell ?_ (by first | omega | (simp; done) | (simp; omega)) _ | refine Below.drew ?_ | refine below_drewN ?_ _ | refine Below.trans ?_ (hb30.mono (by first | omega | (simp; done) | (simp; omega))) | refine Below.trans ?_ (hb29.mono (by first | omega | (simp; done) | (simp; omega))) | refine Below.trans ?_ (hb28.mono (by first | omega | (simp; done) | (simp; omega))) | refine Below.trans ?_ (hb27.mono (by first | omega | (simp; done) | (simp; omega))) | refine Below.trans ?_ (hb26.mono (by first | omega | (simp; done) | (simp; omega))) | refine Below.trans ?_ (hb25.mono (by first | omega | (simp; done) | (simp; omega))) | refine Below.trans ?_ (hb24.mono (by first | omega | (simp; done) | (simp; omega))) | refine Below.trans ?_ (hb23.mono (by first | omega | (simp; done) | (simp; omega))) | refine Below.trans ?_ (hb22.mono (by first | omega | (simp; done) | (simp; omega))) | refine Below.trans ?_ (hb21.mono (by first | omega | (simp; done) | (simp; omega))) | refine Below.trans ?_ (hb20.mono (by first | omega | (simp; done) | (simp; omega))) | refine Below.trans ?_ (hb19.mono (by first | omega | (simp; done) | (simp; omega))) | refine Below.trans ?_ (hb18.mono (by first | omega | (simp; done) | (simp; omega))) | refine Below.trans ?_ (hb17.mono (by first | omega | (simp; done) | (simp; omega))) | refine Below.trans ?_ (hb16.mono (by first | omega | (simp; done) | (simp; omega))) | refine Below.trans ?_ (hb15.mono (by first | omega | (simp; done) | (simp; omega))) | refine Below.trans ?_ (hb14.mono (by first | omega | (simp; done) | (simp; omega))) | refine Below.trans ?_ (hb13.mono (by first | omega | (simp; done) | (simp; omega))) | refine Below.trans ?_ (hb12.mono (by first | omega | (simp; done) | (simp; omega))) | refine Below.trans ?_ (hb11.mono (by first | omega | (simp; done) | (simp; omega))) | refine Below.trans ?_ (hb10.mono (by first | omega | (simp; done) | (simp; omega))) | refine Below.trans ?_ (hb9.mono (by first | omega | (simp; done) | (simp; omega))) | refine Below.trans ?_ (hb8.mono (by first | omega | (simp; done) | (simp; omega))) | refine Below.trans ?_ (hb7.mono (by first | omega | (simp; done) | (simp; omega))) | refine Below.trans ?_ (hb6.mono (by first | omega | (simp; done) | (simp; omega))) | refine Below.trans ?_ (hb5.mono (by first | omega | (simp; done) | (simp; omega))) | refine Below.trans ?_ (hb4.mono (by first | omega | (simp; done) | (simp; omega))) | refine Below.trans ?_ (hb3.mono (by first | omega | (simp; done) | (simp; omega))) | refine Below.trans ?_ (hb2.mono (by first | omega | (simp; done) | (simp; omega))) | refine Below.trans ?_ (hb1.mono (by first | omega | (simp; done) | (simp; omega))))
theorem sEvalAnd_any (a b g e n : Int) (w : World) :
    Calls Try.prog 32 #[.int .i64 a, .int .i64 b, .int .i64 g, .int .i64 e, .int .i64 n] w fun e' w' => e' = .returned (.int .i64 (evAnd a b g e n)) ∧ Below w.heap.size w w' := by
  cases hn : inB n 0 6000 with
  | false =>
    have hE := Lib.hid (show evAnd a b g e n = -1 by simp [evAnd, evAndOk, hn])
    go_enter Try.func32, Try.ntmps32
    go_wp2_with (first | (go_at_call 96; refine (l01In_any _ _ _ _).mono ?_; rintro e' w' ⟨rfl, rfl⟩) | (go_at_call 95; refine (sIsLabel_any _ _).mono ?_; rintro e' w' ⟨rfl, rfl⟩))
    all_goals (go_ret; exact ⟨ret_int hE.out.symm, Below.refl _ _⟩)
  | true =>
    obtain ⟨n1, n2⟩ := inB_iff.1 hn
    cases hl : (lab a && lab b && lab g && lab e) with
    | false =>
      have hE := Lib.hid (show evAnd a b g e n = -1 by simp only [evAnd, evAndOk, hl]; simp)
      go_enter Try.func32, Try.ntmps32
      go_wp2_with (first | (go_at_call 96; refine (l01In_any _ _ _ _).mono ?_; rintro e' w' ⟨rfl, rfl⟩) | (go_at_call 95; refine (sIsLabel_any _ _).mono ?_; rintro e' w' ⟨rfl, rfl⟩))
      all_goals first | (go_ret; exact ⟨ret_int hE.out.symm, Below.refl _ _⟩) | (exfalso; simp_all; done)
    | true =>
      have hE := Lib.hid (show evAnd a b g e n = xo (xo (xo (hashI a (2 * n)) (hashI b (2 * n + 1))) (sel1 (bits .and .i64 a 1) g)) (sel1 (bits .and .i64 b 1) (xo e a)) by simp only [evAnd, evAndOk, hl, hn]; rfl)
      obtain ⟨⟨⟨la, lb⟩, lg⟩, le⟩ : ((lab a = true ∧ lab b = true) ∧ lab g = true) ∧ lab e = true := by simpa using hl
      go_enter Try.func32, Try.ntmps32
      go_wp2_with (first | (go_at_call 96; refine (l01In_any _ _ _ _).mono ?_; rintro e' w' ⟨rfl, rfl⟩) | (go_at_call 95; refine (sIsLabel_any _ _).mono ?_; rintro e' w' ⟨rfl, rfl⟩) | (go_at_call 98; refine (sHashLabel_any _ _ _).mono ?_; rintro e' w' ⟨rfl, rfl⟩) | (go_at_call 99; refine (l18If_any _ _ _).mono ?_; rintro e' w' ⟨rfl, rfl⟩))
      go_ret
      exact ⟨ret_int hE.out.symm, Below.refl _ _⟩
theorem iEvalAnd_any (a b g e n : Int) (w : World) :
    Calls Try.prog 33 #[.int .i64 a, .int .i64 b, .int .i64 g, .int .i64 e, .int .i64 n] w fun e' w' => e' = .returned (.int .i64 (evAnd a b g e n)) ∧ Below w.heap.size w w' := by
  have hl0 : allLab [a, b, g, e] = (lab a && lab b && lab g && lab e) := by simp [allLab, Bool.and_assoc]
  cases hl : (lab a && lab b && lab g && lab e) with
  | false =>
    rw [hl] at hl0
    have hE := Lib.hid (show evAnd a b g e n = -1 by simp only [evAnd, evAndOk, hl]; simp)
    clear hl
    go_enter Try.func33, Try.ntmps33
    go_wp2_with (first | (go_at_call 100; refine (within_any _ _ _ _).mono ?_; rintro e' w' ⟨rfl, rfl⟩) | (go_at_call 91; refine (areLabels_any _ 4 _ [a, b, g, e] _ (Ints.new _ [a, b, g, e] _ (by simp) rfl) (by omega)).mono ?_; rintro e' w' ⟨rfl, rfl⟩))
    go_ret
    refine ⟨ret_int hE.out.symm, ?_⟩
    repeat (first | exact Below.refl _ _ | refine Below.alloc ?_ (by first | omega | (simp; done) | (simp; omega)) _ | refine Below.setCell ?_ (by first | omega | (simp; done) | (simp; omega)) _ | refine Below.drew ?_ | refine below_drewN ?_ _ | refine Below.trans ?_ (hb30.mono (by first | omega | (simp; done) | (simp; omega))) | refine Below.trans ?_ (hb29.mono (by first | omega | (simp; done) | (simp; omega))) | refine Below.trans ?_ (hb28.mono (by first | omega | (simp; done) | (simp; omega))) | refine Below.trans ?_ (hb27.mono (by first | omega | (simp; done) | (simp; omega))) | refine Below.trans ?_ (hb26.mono (by first | omega | (simp; done) | (simp; omega))) | refine Below.trans ?_ (hb25.mono (by first | omega | (simp; done) | (simp; omega))) | refine Below.trans ?_ (hb24.mono (by first | omega | (simp; done) | (simp; omega))) | refine Below.trans ?_ (hb23.mono (by first | omega | (simp; done) | (simp; omega))) | refine Below.trans ?_ (hb22.mono (by first | omega | (simp; done) | (simp; omega))) | refine Below.trans ?_ (hb21.mono (by first | omega | (simp; done) | (simp; omega))) | refine Below.trans ?_ (hb20.mono (by first | omega | (simp; done) | (simp; omega))) | refine Below.trans ?_ (hb19.mono (by first | omega | (simp; done) | (simp; omega))) | refine Below.trans ?_ (hb18.mono (by first | omega | (simp; done) | (simp; omega))) | refine Below.trans ?_ (hb17.mono (by first | omega | (simp; done) | (simp; omega))) | refine Below.trans ?_ (hb16.mono (by first | omega | (simp; done) | (simp; omega))) | refine Below.trans ?_ (hb15.mono (by first | omega | (simp; done) | (simp; omega))) | refine Below.trans ?_ (hb14.mono (by first | omega | (simp; done) | (simp; omega))) | refine Below.trans ?_ (hb13.mono (by first | omega | (simp; done) | (simp; omega))) | refine Below.trans ?_ (hb12.mono (by first | omega | (simp; done) | (simp; omega))) | refine Below.trans ?_ (hb11.mono (by first | omega | (simp; done) | (simp; omega))) | refine Below.trans ?_ (hb10.mono (by first | omega | (simp; done) | (simp; omega))) | refine Below.trans ?_ (hb9.mono (by first | omega | (simp; done) | (simp; omega))) | refine Below.trans ?_ (hb8.mono (by first | omega | (simp; done) | (simp; omega))) | refine Below.trans ?_ (hb7.mono (by first | omega | (simp; done) | (simp; omega))) | refine Below.trans ?_ (hb6.mono (by first | omega | (simp; done) | (simp; omega))) | refine Below.trans ?_ (hb5.mono (by first | omega | (simp; done) | (simp; omega))) | refine Below.trans ?_ (hb4.mono (by first | omega | (simp; done) | (simp; omega))) | refine Below.trans ?_ (hb3.mono (by first | omega | (simp; done) | (simp; omega))) | refine Below.trans ?_ (hb2.mono (by first | omega | (simp; done) | (simp; omega))) | refine Below.trans ?_ (hb1.mono (by first | omega | (simp; done) | (simp; omega))))
  | true =>
    rw [hl] at hl0
    cases hn : inB n 0 6000 with
    | false =>
      have hE := Lib.hid (show evAnd a b g e n = -1 by simp [evAnd, evAndOk, hn])
      clear hl
      go_enter Try.func33, Try.ntmps33
      go_wp2_with (first | (go_at_call 100; refine (within_any _ _ _ _).mono ?_; rintro e' w' ⟨rfl, rfl⟩) | (go_at_call 91; refine (areLabels_any _ 4 _ [a, b, g, e] _ (Ints.new _ [a, b, g, e] _ (by simp) rfl) (by omega)).mono ?_; rintro e' w' ⟨rfl, rfl⟩))
      go_ret
      refine ⟨ret_int hE.out.symm, ?_⟩
      repeat (first | exact Below.refl _ _ | refine Below.alloc ?_ (by first | omega | (simp; done) | (simp; omega)) _ | refine Below.setCell ?_ (by first | omega | (simp; done) | (simp; omega)) _ | refine Below.drew ?_ | refine below_drewN ?_ _ | refine Below.trans ?_ (hb30.mono (by first | omega | (simp; done) | (simp; omega))) | refine Below.trans ?_ (hb29.mono (by first | omega | (simp; done) | (simp; omega))) | refine Below.trans ?_ (hb28.mono (by first | omega | (simp; done) | (simp; omega))) | refine Below.trans ?_ (hb27.mono (by first | omega | (simp; done) | (simp; omega))) | refine Below.trans ?_ (hb26.mono (by first | omega | (simp; done) | (simp; omega))) | refine Below.trans ?_ (hb25.mono (by first | omega | (simp; done) | (simp; omega))) | refine Below.trans ?_ (hb24.mono (by first | omega | (simp; done) | (simp; omega))) | refine Below.trans ?_ (hb23.mono (by first | omega | (simp; done) | (simp; omega))) | refine Below.trans ?_ (hb22.mono (by first | omega | (simp; done) | (simp; omega))) | refine Below.trans ?_ (hb21.mono (by first | omega | (simp; done) | (simp; omega))) | refine Below.trans ?_ (hb20.mono (by first | omega | (simp; done) | (simp; omega))) | refine Below.trans ?_ (hb19.mono (by first | omega | (simp; done) | (simp; omega))) | refine Below.trans ?_ (hb18.mono (by first | omega | (simp; done) | (simp; omega))) | refine Below.trans ?_ (hb17.mono (by first | omega | (simp; done) | (simp; omega))) | refine Below.trans ?_ (hb16.mono (by first | omega | (simp; done) | (simp; omega))) | refine Below.trans ?_ (hb15.mono (by first | omega | (simp; done) | (simp; omega))) | refine Below.trans ?_ (hb14.mono (by first | omega | (simp; done) | (simp; omega))) | refine Below.trans ?_ (hb13.mono (by first | omega | (simp; done) | (simp; omega))) | refine Below.trans ?_ (hb12.mono (by first | omega | (simp; done) | (simp; omega))) | refine Below.trans ?_ (hb11.mono (by first | omega | (simp; done) | (simp; omega))) | refine Below.trans ?_ (hb10.mono (by first | omega | (simp; done) | (simp; omega))) | refine Below.trans ?_ (hb9.mono (by first | omega | (simp; done) | (simp; omega))) | refine Below.trans ?_ (hb8.mono (by first | omega | (simp; done) | (simp; omega))) | refine Below.trans ?_ (hb7.mono (by first | omega | (simp; done) | (simp; omega))) | refine Below.trans ?_ (hb6.mono (by first | omega | (simp; done) | (simp; omega))) | refine Below.trans ?_ (hb5.mono (by first | omega | (simp; done) | (simp; omega))) | refine Below.trans ?_ (hb4.mono (by first | omega | (simp; done) | (simp; omega))) | refine Below.trans ?_ (hb3.mono (by first | omega | (simp; done) | (simp; omega))) | refine Below.trans ?_ (hb2.mono (by first | omega | (simp; done) | (simp; omega))) | refine Below.trans ?_ (hb1.mono (by first | omega | (simp; done) | (simp; omega))))
    | true =>
      obtain ⟨n1, n2⟩ := inB_iff.1 hn
      obtain ⟨⟨⟨la, lb⟩, lg⟩, le⟩ : ((lab a = true ∧ lab b = true) ∧ lab g = true) ∧ lab e = true := by simpa using hl
      have m1 := sel_mul la g
      have m2 := sel_mul lb (xo e a)
      obtain ⟨u1, u2⟩ := lab_iff.1 (sel_lab (b := a) lg)
      obtain ⟨u3, u4⟩ := lab_iff.1 (sel_lab (b := b) (xo_lab le la))
      have hE := Lib.hid (show evAnd a b g e n = xo (xo (xo (hashI a (2 * n)) (hashI b (2 * n + 1))) (bit0 a * g)) (bit0 b * xo e a) by rw [m1, m2]; simp only [evAnd, evAndOk, hl, hn]; rfl)
      rw [← m1] at u1 u2
      rw [← m2] at u3 u4
      clear m1 m2 hl
      unfold bit0 at u1 u2
      unfold bit0 xo at u3 u4
      go_enter Try.func33, Try.ntmps33
      go_wp2_with (first | (go_at_call 100; refine (within_any _ _ _ _).mono ?_; rintro e' w' ⟨rfl, rfl⟩) | (go_at_call 91; refine (areLabels_any _ 4 _ [a, b, g, e] _ (Ints.new _ [a, b, g, e] _ (by simp) rfl) (by omega)).mono ?_; rintro e' w' ⟨rfl, rfl⟩) | (go_at_call 88; refine (iHashLabel_any _ _ _).mono ?_; rintro e' w' ⟨rfl, rfl⟩))
      go_ret
      refine ⟨ret_int hE.out.symm, ?_⟩
      repeat (first | exact Below.refl _ _ | refine Below.alloc ?_ (by first | omega | (simp; done) | (simp; omega)) _ | refine Below.setCell ?_ (by first | omega | (simp; done) | (simp; omega)) _ | refine Below.drew ?_ | refine below_drewN ?_ _ | refine Below.trans ?_ (hb30.mono (by first | omega | (simp; done) | (simp; omega))) | refine Below.trans ?_ (hb29.mono (by first | omega | (simp; done) | (simp; omega))) | refine Below.trans ?_ (hb28.mono (by first | omega | (simp; done) | (simp; omega))) | refine Below.trans ?_ (hb27.mono (by first | omega | (simp; done) | (simp; omega))) | refine Below.trans ?_ (hb26.mono (by first | omega | (simp; done) | (simp; omega))) | refine Below.trans ?_ (hb25.mono (by first | omega | (simp; done) | (simp; omega))) | refine Below.trans ?_ (hb24.mono (by first | omega | (simp; done) | (simp; omega))) | refine Below.trans ?_ (hb23.mono (by first | omega | (simp; done) | (simp; omega))) | refine Below.trans ?_ (hb22.mono (by first | omega | (simp; done) | (simp; omega))) | refine Below.trans ?_ (hb21.mono (by first | omega | (simp; done) | (simp; omega))) | refine Below.trans ?_ (hb20.mono (by first | omega | (simp; done) | (simp; omega))) | refine Below.trans ?_ (hb19.mono (by first | omega | (simp; done) | (simp; omega))) | refine Below.trans ?_ (hb18.mono (by first | omega | (simp; done) | (simp; omega))) | refine Below.trans ?_ (hb17.mono (by first | omega | (simp; done) | (simp; omega))) | refine Below.trans ?_ (hb16.mono (by first | omega | (simp; done) | (simp; omega))) | refine Below.trans ?_ (hb15.mono (by first | omega | (simp; done) | (simp; omega))) | refine Below.trans ?_ (hb14.mono (by first | omega | (simp; done) | (simp; omega))) | refine Below.trans ?_ (hb13.mono (by first | omega | (simp; done) | (simp; omega))) | refine Below.trans ?_ (hb12.mono (by first | omega | (simp; done) | (simp; omega))) | refine Below.trans ?_ (hb11.mono (by first | omega | (simp; done) | (simp; omega))) | refine Below.trans ?_ (hb10.mono (by first | omega | (simp; done) | (simp; omega))) | refine Below.trans ?_ (hb9.mono (by first | omega | (simp; done) | (simp; omega))) | refine Below.trans ?_ (hb8.mono (by first | omega | (simp; done) | (simp; omega))) | refine Below.trans ?_ (hb7.mono (by first | omega | (simp; done) | (simp; omega))) | refine Below.trans ?_ (hb6.mono (by first | omega | (simp; done) | (simp; omega))) | refine Below.trans ?_ (hb5.mono (by first | omega | (simp; done) | (simp; omega))) | refine Below.trans ?_ (hb4.mono (by first | omega | (simp; done) | (simp; omega))) | refine Below.trans ?_ (hb3.mono (by first | omega | (simp; done) | (simp; omega))) | refine Below.trans ?_ (hb2.mono (by first | omega | (simp; done) | (simp; omega))) | refine Below.trans ?_ (hb1.mono (by first | omega | (simp; done) | (simp; omega))))
theorem walk_FnExactEvalAnd (a b g e n : Int) (w : World) :
    Calls Try.prog 4 #[.int .i64 a, .int .i64 b, .int .i64 g, .int .i64 e, .int .i64 n] w fun e' w' => e' = .returned (.bool true) ∧ Below w.heap.size w w' := by
  go_enter Try.func4, Try.ntmps4
  go_wp2_with fail; refine (sEvalAnd_any _ _ _ _ _ _).mono ?_; rintro e w1 ⟨rfl, hb1⟩; obtain ⟨hc1, hf1⟩ := bcell hb1; have hz1 := hb1.size; (try simp only [World.size_alloc] at hz1 hc1 hf1); (try have : w.heap.size < w1.heap.size := (by omega)); (try have : w.heap.size + 1 < w1.heap.size := (by omega)); (try have : w.heap.size + 2 < w1.heap.size := (by omega)); (try have : w.heap.size + 3 < w1.heap.size := (by omega)); (try have : w.heap.size + 4 < w1.heap.size := (by omega))
  go_wp2_with fail; refine (iEvalAnd_any _ _ _ _ _ _).mono ?_; rintro e w2 ⟨rfl, hb2⟩; obtain ⟨hc2, hf2⟩ := bcell hb2; have hz2 := hb2.size; (try simp only [World.size_alloc] at hz2 hc2 hf2); (try have : w.heap.size < w2.heap.size := (by omega)); (try have : w.heap.size + 1 < w2.heap.size := (by omega)); (try have : w.heap.size + 2 < w2.heap.size := (by omega)); (try have : w.heap.size + 3 < w2.heap.size := (by omega)); (try have : w.heap.size + 4 < w2.heap.size := (by omega)); (try have : w1.heap.size < w2.heap.size := (by omega)); (try have : w1.heap.size + 1 < w2.heap.size := (by omega)); (try have : w1.heap.size + 2 < w2.heap.size := (by omega)); (try have : w1.heap.size + 3 < w2.heap.size := (by omega)); (try have : w1.heap.size + 4 < w2.heap.size := (by omega))
  go_wp2
  go_ret
  refine ⟨rfl, ?_⟩
  repeat (first | exact Below.refl _ _ | refine Below.alloc ?_ (by first | omega | (simp; done) | (simp; omega)) _ | refine Below.setCell ?_ (by first | omega | (simp; done) | (simp; omega)) _ | refine Below.drew ?_ | refine below_drewN ?_ _ | refine Below.trans ?_ (hb30.mono (by first | omega | (simp; done) | (simp; omega))) | refine Below.trans ?_ (hb29.mono (by first | omega | (simp; done) | (simp; omega))) | refine Below.trans ?_ (hb28.mono (by first | omega | (simp; done) | (simp; omega))) | refine Below.trans ?_ (hb27.mono (by first | omega | (simp; done) | (simp; omega))) | refine Below.trans ?_ (hb26.mono (by first | omega | (simp; done) | (simp; omega))) | refine Below.trans ?_ (hb25.mono (by first | omega | (simp; done) | (simp; omega))) | refine Below.trans ?_ (hb24.mono (by first | omega | (simp; done) | (simp; omega))) | refine Below.trans ?_ (hb23.mono (by first | omega | (simp; done) | (simp; omega))) | refine Below.trans ?_ (hb22.mono (by first | omega | (simp; done) | (simp; omega))) | refine Below.trans ?_ (hb21.mono (by first | omega | (simp; done) | (simp; omega))) | refine Below.trans ?_ (hb20.mono (by first | omega | (simp; done) | (simp; omega))) | refine Below.trans ?_ (hb19.mono (by first | omega | (simp; done) | (simp; omega))) | refine Below.trans ?_ (hb18.mono (by first | omega | (simp; done) | (simp; omega))) | refine Below.trans ?_ (hb17.mono (by first | omega | (simp; done) | (simp; omega))) | refine Below.trans ?_ (hb16.mono (by first | omega | (simp; done) | (simp; omega))) | refine Below.trans ?_ (hb15.mono (by first | omega | (simp; done) | (simp; omega))) | refine Below.trans ?_ (hb14.mono (by first | omega | (simp; done) | (simp; omega))) | refine Below.trans ?_ (hb13.mono (by first | omega | (simp; done) | (simp; omega))) | refine Below.trans ?_ (hb12.mono (by first | omega | (simp; done) | (simp; omega))) | refine Below.trans ?_ (hb11.mono (by first | omega | (simp; done) | (simp; omega))) | refine Below.trans ?_ (hb10.mono (by first | omega | (simp; done) | (simp; omega))) | refine Below.trans ?_ (hb9.mono (by first | omega | (simp; done) | (simp; omega))) | refine Below.trans ?_ (hb8.mono (by first | omega | (simp; done) | (simp; omega))) | refine Below.trans ?_ (hb7.mono (by first | omega | (simp; done) | (simp; omega))) | refine Below.trans ?_ (hb6.mono (by first | omega | (simp; done) | (simp; omega))) | refine Below.trans ?_ (hb5.mono (by first | omega | (simp; done) | (simp; omega))) | refine Below.trans ?_ (hb4.mono (by first | omega | (simp; done) | (simp; omega))) | refine Below.trans ?_ (hb3.mono (by first | omega | (simp; done) | (simp; omega))) | refine Below.trans ?_ (hb2.mono (by first | omega | (simp; done) | (simp; omega))) | refine Below.trans ?_ (hb1.mono (by first | omega | (simp; done) | (simp; omega))))
end Go.Proofs.Ytodnahpegecpiaa

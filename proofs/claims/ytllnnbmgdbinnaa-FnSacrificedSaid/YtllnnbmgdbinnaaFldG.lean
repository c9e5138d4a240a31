/- Contracts of the field's arithmetic: FAdd, FSub, FMul, FSum, and of the counts of forgeries and views. -/
import Derived.Test.YtllnnbmgdbinnaaFldF
import Derived.Test.YtllnnbmgdbinnaaXl
import Derived.Test.YtllnnbmgdbinnaaAuthMath
namespace Go.Proofs.Ytllnnbmgdbinnaa
set_option linter.unusedSimpArgs false
set_option linter.unusedVariables false
open Go.RowKit
theorem allEl_two (p a b : Int) : allEl p [a, b] = (elem p a && elem p b) := by
  cases h : fOk p <;> simp [allEl, elem, h]
theorem sub_mod1 (p a b : Int) : (a + p - b) % p = (a - b) % p := by rw [show a + p - b = (a - b) + p by omega]; exact Int.add_emod_right _ _
theorem sub_mod2 (p a b : Int) : (a - b + p) % p = (a - b) % p := Int.add_emod_right _ _
theorem mul_bd {a b p : Int} (ha : 0 ≤ a) (hap : a < p) (hb : 0 ≤ b) (hbp : b < p) (hp : p ≤ 101) : 0 ≤ a * b ∧ a * b ≤ 10201 := by
  have h1 := Int.mul_nonneg ha hb
  have h2 : a * b ≤ 101 * 101 := Int.mul_le_mul (by omega) (by omega) hb (by omega)
  omega
theorem elems {p a b : Int} (h : (elem p a && elem p b) = true) : (2 ≤ p ∧ p ≤ 101) ∧ (0 ≤ a ∧ a < p) ∧ 0 ≤ b ∧ b < p := by
  rw [Bool.and_eq_true] at h
  obtain ⟨h1, h2, h3⟩ := elem_iff.1 h.1
  obtain ⟨_, h4, h5⟩ := elem_iff.1 h.2
  exact ⟨fOk_bd h1, ⟨h2, h3⟩, h4, h5⟩
theorem sFAdd_any (p a b : Int) (w : World) :
    Calls Try.prog 133 #[.int .i64 p, .int .i64 a, .int .i64 b] w fun e w' => e = .returned (.int .i64 (fadd p a b)) ∧ w = w' := by
  cases h : (elem p a && elem p b) with
  | true =>
    obtain ⟨⟨p1, p2⟩, ⟨a1, a2⟩, b1, b2⟩ := elems h
    obtain ⟨m1, m2⟩ := mul_bd a1 a2 b1 b2 p2
    have HE := Lib.hid (show fadd p a b = (a + b) % p by simp [fadd, h])
    go_enter Try.func133, Try.ntmps133
    go_wp2_with fail
    refine (l03Both_any _ _ _ _).mono ?_
    rintro e w' ⟨rfl, rfl⟩
    go_wp2
    go_ret
    exact ⟨ret_int (by rw [HE.out]), rfl⟩
  | false =>
    have HE := Lib.hid (show fadd p a b = -1 by simp [fadd, h])
    go_enter Try.func133, Try.ntmps133
    go_wp2_with fail
    refine (l03Both_any _ _ _ _).mono ?_
    rintro e w' ⟨rfl, rfl⟩
    go_wp2
    go_ret
    exact ⟨ret_int HE.out.symm, rfl⟩
theorem iFAdd_any (p a b : Int) (w : World) :
    Calls Try.prog 134 #[.int .i64 p, .int .i64 a, .int .i64 b] w fun e w' => e = .returned (.int .i64 (fadd p a b)) ∧ Below w.heap.size w w' := by
  have HT := Lib.hid (allEl_two p a b)
  cases h : (elem p a && elem p b) with
  | true =>
    obtain ⟨⟨p1, p2⟩, ⟨a1, a2⟩, b1, b2⟩ := elems h
    obtain ⟨m1, m2⟩ := mul_bd a1 a2 b1 b2 p2
    have HE := Lib.hid (show fadd p a b = (a + b) % p by simp [fadd, h])
    have h2 : allEl p [a, b] = true := by rw [HT.out, h]
    clear h
    go_enter Try.func134, Try.ntmps134
    go_wp2_with fail
    refine (areElements_any _ _ 2 _ [a, b] _ (Ints.new _ [a, b] _ rfl rfl) (by omega)).mono ?_
    rintro e w' ⟨rfl, rfl⟩
    go_wp2
    go_ret
    exact ⟨ret_int (by rw [HE.out]), (Below.refl _ _).alloc (Nat.le_refl _) _⟩
  | false =>
    have HE := Lib.hid (show fadd p a b = -1 by simp [fadd, h])
    have h2 : allEl p [a, b] = false := by rw [HT.out, h]
    clear h
    go_enter Try.func134, Try.ntmps134
    go_wp2_with fail
    refine (areElements_any _ _ 2 _ [a, b] _ (Ints.new _ [a, b] _ rfl rfl) (by omega)).mono ?_
    rintro e w' ⟨rfl, rfl⟩
    go_wp2
    go_ret
    exact ⟨ret_int HE.out.symm, (Below.refl _ _).alloc (Nat.le_refl _) _⟩
theorem sFSub_any (p a b : Int) (w : World) :
    Calls Try.prog 88 #[.int .i64 p, .int .i64 a, .int .i64 b] w fun e w' => e = .returned (.int .i64 (fsub p a b)) ∧ w = w' := by
  cases h : (elem p a && elem p b) with
  | true =>
    obtain ⟨⟨p1, p2⟩, ⟨a1, a2⟩, b1, b2⟩ := elems h
    obtain ⟨m1, m2⟩ := mul_bd a1 a2 b1 b2 p2
    have HE := Lib.hid (show fsub p a b = (a - b) % p by simp [fsub, h])
    go_enter Try.func88, Try.ntmps88
    go_wp2_with fail
    refine (l03Both_any _ _ _ _).mono ?_
    rintro e w' ⟨rfl, rfl⟩
    go_wp2
    go_ret
    exact ⟨ret_int (by rw [HE.out]; exact sub_mod1 _ _ _), rfl⟩
  | false =>
    have HE := Lib.hid (show fsub p a b = -1 by simp [fsub, h])
    go_enter Try.func88, Try.ntmps88
    go_wp2_with fail
    refine (l03Both_any _ _ _ _).mono ?_
    rintro e w' ⟨rfl, rfl⟩
    go_wp2
    go_ret
    exact ⟨ret_int HE.out.symm, rfl⟩
theorem iFSub_any (p a b : Int) (w : World) :
    Calls Try.prog 122 #[.int .i64 p, .int .i64 a, .int .i64 b] w fun e w' => e = .returned (.int .i64 (fsub p a b)) ∧ Below w.heap.size w w' := by
  have HT := Lib.hid (allEl_two p a b)
  cases h : (elem p a && elem p b) with
  | true =>
    obtain ⟨⟨p1, p2⟩, ⟨a1, a2⟩, b1, b2⟩ := elems h
    obtain ⟨m1, m2⟩ := mul_bd a1 a2 b1 b2 p2
    have HE := Lib.hid (show fsub p a b = (a - b) % p by simp [fsub, h])
    have h2 : allEl p [a, b] = true := by rw [HT.out, h]
    clear h
    go_enter Try.func122, Try.ntmps122
    go_wp2_with fail
    refine (areElements_any _ _ 2 _ [a, b] _ (Ints.new _ [a, b] _ rfl rfl) (by omega)).mono ?_
    rintro e w' ⟨rfl, rfl⟩
    go_wp2
    go_ret
    exact ⟨ret_int (by rw [HE.out]; exact sub_mod2 _ _ _), (Below.refl _ _).alloc (Nat.le_refl _) _⟩
  | false =>
    have HE := Lib.hid (show fsub p a b = -1 by simp [fsub, h])
    have h2 : allEl p [a, b] = false := by rw [HT.out, h]
    clear h
    go_enter Try.func122, Try.ntmps122
    go_wp2_with fail
    refine (areElements_any _ _ 2 _ [a, b] _ (Ints.new _ [a, b] _ rfl rfl) (by omega)).mono ?_
    rintro e w' ⟨rfl, rfl⟩
    go_wp2
    go_ret
    exact ⟨ret_int HE.out.symm, (Below.refl _ _).alloc (Nat.le_refl _) _⟩
theorem sFMul_any (p a b : Int) (w : World) :
    Calls Try.prog 105 #[.int .i64 p, .int .i64 a, .int .i64 b] w fun e w' => e = .returned (.int .i64 (fmul p a b)) ∧ w = w' := by
  cases h : (elem p a && elem p b) with
  | true =>
    obtain ⟨⟨p1, p2⟩, ⟨a1, a2⟩, b1, b2⟩ := elems h
    obtain ⟨m1, m2⟩ := mul_bd a1 a2 b1 b2 p2
    have HE := Lib.hid (show fmul p a b = a * b % p by simp [fmul, h])
    go_enter Try.func105, Try.ntmps105
    go_wp2_with fail
    refine (l03Both_any _ _ _ _).mono ?_
    rintro e w' ⟨rfl, rfl⟩
    go_wp2
    go_ret
    exact ⟨ret_int (by rw [HE.out]), rfl⟩
  | false =>
    have HE := Lib.hid (show fmul p a b = -1 by simp [fmul, h])
    go_enter Try.func105, Try.ntmps105
    go_wp2_with fail
    refine (l03Both_any _ _ _ _).mono ?_
    rintro e w' ⟨rfl, rfl⟩
    go_wp2
    go_ret
    exact ⟨ret_int HE.out.symm, rfl⟩
theorem iFMul_any (p a b : Int) (w : World) :
    Calls Try.prog 101 #[.int .i64 p, .int .i64 a, .int .i64 b] w fun e w' => e = .returned (.int .i64 (fmul p a b)) ∧ Below w.heap.size w w' := by
  have HT := Lib.hid (allEl_two p a b)
  cases h : (elem p a && elem p b) with
  | true =>
    obtain ⟨⟨p1, p2⟩, ⟨a1, a2⟩, b1, b2⟩ := elems h
    obtain ⟨m1, m2⟩ := mul_bd a1 a2 b1 b2 p2
    have HE := Lib.hid (show fmul p a b = a * b % p by simp [fmul, h])
    have h2 : allEl p [a, b] = true := by rw [HT.out, h]
    clear h
    go_enter Try.func101, Try.ntmps101
    go_wp2_with fail
    refine (areElements_any _ _ 2 _ [a, b] _ (Ints.new _ [a, b] _ rfl rfl) (by omega)).mono ?_
    rintro e w' ⟨rfl, rfl⟩
    go_wp2
    go_ret
    exact ⟨ret_int (by rw [HE.out]), (Below.refl _ _).alloc (Nat.le_refl _) _⟩
  | false =>
    have HE := Lib.hid (show fmul p a b = -1 by simp [fmul, h])
    have h2 : allEl p [a, b] = false := by rw [HT.out, h]
    clear h
    go_enter Try.func101, Try.ntmps101
    go_wp2_with fail
    refine (areElements_any _ _ 2 _ [a, b] _ (Ints.new _ [a, b] _ rfl rfl) (by omega)).mono ?_
    rintro e w' ⟨rfl, rfl⟩
    go_wp2
    go_ret
    exact ⟨ret_int HE.out.symm, (Below.refl _ _).alloc (Nat.le_refl _) _⟩
theorem sum_bd {p : Int} (h : 2 ≤ p) (x : Int) : 0 ≤ x % p ∧ x % p < p := ⟨Int.emod_nonneg _ (by omega), Int.emod_lt_of_pos _ (by omega)⟩
set_option maxRecDepth 100000 in
theorem sFSum_any (p : Int) (A : Option Addr) (n c : Nat) (l : List Int) (w : World) (h : Ints w A n l) (hn : n ≤ 1099511627776) :
    Calls Try.prog 104 #[.int .i64 p, .slice A n c] w fun e w' => e = .returned (.int .i64 (fsum p l)) ∧ w = w' := by
  have hl := Lib.hid h.len
  cases hall : allEl p l with
  | true =>
    have hA := allEl_iff.1 hall
    obtain ⟨p1, p2⟩ := fOk_bd hA.1
    have HA := Lib.hid hA
    have HE := Lib.hid (fsum_eq hall)
    clear hA
    go_enter Try.func104, Try.ntmps104
    go_wp2_with fail
    refine (l03All_any _ _ _ _ _ _ h hn).mono ?_
    rintro e w' ⟨rfl, rfl⟩
    go_wp2
    go_loop [5, 6] (fun s i => ∃ k : Nat, k ≤ n ∧ i = .int .i64 k ∧ s = .int .i64 (sumG (nth l) k % p)) (fun _ i => n - (intOf i).toNat)
    case atStart => exact ⟨0, Nat.zero_le _, rfl, by simp [sumG]⟩
    case round =>
      obtain ⟨k, hk, rfl, rfl⟩ := hrel
      obtain ⟨q1, q2⟩ := sum_bd p1 (sumG (nth l) k)
      by_cases hlt : k < n
      · obtain ⟨g, o, rfl, hg, hc⟩ := h.block (by omega)
        have hck := hc k hlt
        obtain ⟨_, e1, e2⟩ := elem_iff.1 (HA.out.2 k (by rw [hl.out]; exact hlt))
        have hs := Lib.hid (sum_step p (sumG (nth l) k) (nth l k))
        clear hc
        go_wp2
        go_round
        case rel => exact ⟨k + 1, by omega, by go_num, by rw [hs.out]; rfl⟩
        case measure => simp [intOf]; omega
      · go_wp2
        go_ret
        exact ⟨ret_int (by rw [HE.out, hl.out, show n = k by omega]), rfl⟩
  | false =>
    have HE := Lib.hid (show fsum p l = -1 by simp [fsum, hall])
    go_enter Try.func104, Try.ntmps104
    go_wp2_with fail
    refine (l03All_any _ _ _ _ _ _ h hn).mono ?_
    rintro e w' ⟨rfl, rfl⟩
    go_wp2
    go_ret
    exact ⟨ret_int HE.out.symm, rfl⟩
set_option maxRecDepth 100000 in
theorem iFSum_any (p : Int) (A : Option Addr) (n c : Nat) (l : List Int) (w : World) (h : Ints w A n l) (hn : n ≤ 1099511627776) :
    Calls Try.prog 102 #[.int .i64 p, .slice A n c] w fun e w' => e = .returned (.int .i64 (fsum p l)) ∧ w = w' := by
  have hl := Lib.hid h.len
  cases hall : allEl p l with
  | true =>
    have hA := allEl_iff.1 hall
    obtain ⟨p1, p2⟩ := fOk_bd hA.1
    have HA := Lib.hid hA
    have HE := Lib.hid (fsum_eq hall)
    clear hA
    go_enter Try.func102, Try.ntmps102
    go_wp2_with fail
    refine (areElements_any _ _ _ _ _ _ h hn).mono ?_
    rintro e w' ⟨rfl, rfl⟩
    go_wp2
    go_loop [5, 14] (fun s i => ∃ k : Nat, k ≤ n ∧ i = .int .i64 k ∧ s = .int .i64 (sumG (nth l) k % p)) (fun _ i => n - (intOf i).toNat)
    case atStart => exact ⟨0, Nat.zero_le _, rfl, by simp [sumG]⟩
    case round =>
      obtain ⟨k, hk, rfl, rfl⟩ := hrel
      obtain ⟨q1, q2⟩ := sum_bd p1 (sumG (nth l) k)
      by_cases hlt : k < n
      · obtain ⟨g, o, rfl, hg, hc⟩ := h.block (by omega)
        have hck := hc k hlt
        obtain ⟨_, e1, e2⟩ := elem_iff.1 (HA.out.2 k (by rw [hl.out]; exact hlt))
        have hs := Lib.hid (sum_step p (sumG (nth l) k) (nth l k))
        clear hc
        go_wp2
        go_round
        case rel => exact ⟨k + 1, by omega, by go_num, by rw [hs.out]; rfl⟩
        case measure => simp [intOf]; omega
      · go_wp2
        go_ret
        exact ⟨ret_int (by rw [HE.out, hl.out, show n = k by omega]), rfl⟩
  | false =>
    have HE := Lib.hid (show fsum p l = -1 by simp [fsum, hall])
    go_enter Try.func102, Try.ntmps102
    go_wp2_with fail
    refine (areElements_any _ _ _ _ _ _ h hn).mono ?_
    rintro e w' ⟨rfl, rfl⟩
    go_wp2
    go_ret
    exact ⟨ret_int HE.out.symm, rfl⟩
end Go.Proofs.Ytllnnbmgdbinnaa

/- Contracts of Mul256, the program's and the reference's. -/
import Derived.Test.YtakmgghjpompoaaSlices
import Derived.Test.YtakmgghjpompoaaBits
import Derived.Test.YtakmgghjpompoaaMulMath
namespace Go.Proofs.Ytakmgghjpompoaa
set_option linter.unusedSimpArgs false
set_option linter.unusedVariables false
open Go.RowKit
def rowB (x : Int) : Bool := inB x 0 255
def allRow (l : List Int) : Bool := l.all rowB
theorem isRow_any (A : Option Addr) (n c : Nat) (l : List Int) (w : World) (h : Ints w A n l) (hn : n ≤ 1099511627776) :
    Calls Try.prog 74 #[.slice A n c] w fun e w' => e = .returned (.bool (allRow l)) ∧ w = w' := by
  have hl := Lib.hid h.len
  go_enter Try.func74, Try.ntmps74
  go_wp2
  go_loop [7] (fun i => ∃ k : Nat, k ≤ n ∧ i = .int .i64 k ∧ (l.take k).all rowB = true) (fun i => n - (intOf i).toNat)
  case atStart => exact ⟨0, Nat.zero_le _, rfl, rfl⟩
  case round =>
    obtain ⟨k, hk, rfl, hall⟩ := hrel
    have H := Lib.hid hall
    clear hall
    by_cases hlt : k < n
    · obtain ⟨g, o, rfl, hg, hc⟩ := h.block (by omega)
      have hck := hc k hlt
      clear hc
      go_wp2_with (go_at_call 70; refine (within_any _ _ _ _).mono ?_; rintro e w' ⟨rfl, rfl⟩)
      · go_ret
        exact ⟨ret_bool (all_not (by rw [hl.out]; omega) (by simpa [rowB] using ‹(!inB (nth l k) 0 255) = true›)).symm, rfl⟩
      · have ht : rowB (nth l k) = true := by simpa [rowB] using ‹(!inB (nth l k) 0 255) = false›
        go_round
        case rel => exact ⟨k + 1, by omega, by go_num, all_snoc (by rw [hl.out]; omega) H.out ht⟩
        case measure => simp [intOf]; omega
    · go_wp2
      go_ret
      exact ⟨ret_bool (all_done (by rw [hl.out]; omega) H.out).symm, rfl⟩
theorem l22Row_any (a : Int) (w : World) :
    Calls Try.prog 73 #[.int .i64 a] w fun e w' => e = .returned (.bool (rowB a)) ∧ w = w' := by
  go_enter Try.func73, Try.ntmps73
  go_wp2_with (go_at_call 69; refine (l01In_any _ _ _ _).mono ?_; rintro e w' ⟨rfl, rfl⟩)
  go_ret
  exact ⟨rfl, rfl⟩
/-- The product of two rows, -1 where one of them is none. -/
def mulR (a b : Int) : Int := if rowB a && rowB b then ((mulN a.toNat b.toNat : Nat) : Int) else -1
theorem mulR_nat {A B : Nat} (hA : A < 256) (hB : B < 256) : mulR A B = (mulN A B : Nat) := by
  have h1 : rowB A = true := inB_iff.2 ⟨by omega, by omega⟩
  have h2 : rowB B = true := inB_iff.2 ⟨by omega, by omega⟩
  simp [mulR, h1, h2]
theorem mulR_no {a b : Int} (h : (rowB a && rowB b) = false) : mulR a b = -1 := by simp [mulR, h]
/-- One round of the program's loop. -/
theorem mul_round {f x y z T : Nat} (hf : f ≤ 8) (hy : 0 < y) (hyf : y < 2 ^ f) (ht : mulAcc f x y z = T) :
    ∃ g, f = g + 1 ∧ y / 2 < 2 ^ g ∧ mulAcc g (xt x) (y / 2) (if y % 2 = 1 then z ^^^ x else z) = T := by
  cases f with
  | zero => simp at hyf; omega
  | succ g => exact ⟨g, rfl, by rw [Nat.pow_succ] at hyf; omega, ht⟩
theorem xt_hi {x : Nat} (hx : x < 256) (h : 255 < (x : Int) * 2) : bits .xor .i64 ((x : Int) * 2) 283 = ((xt x : Nat) : Int) := by
  have e := xorN (x * 2) 283 (by omega) (by omega)
  have h2 : 255 < x * 2 := by omega
  rw [xt, if_pos h2, ← e]
  congr 1
theorem xt_lo {x : Nat} (h : (x : Int) * 2 ≤ 255) : (x : Int) * 2 = ((xt x : Nat) : Int) := by
  have h2 : ¬ 255 < x * 2 := by omega
  rw [xt, if_neg h2]
  omega
theorem odd_yes {x y z : Nat} (hx : x < 256) (hz : z < 256) (hy : y < 256) (h : (bits .and .i64 (y : Int) 1 == 1) = true) : bits .xor .i64 (z : Int) (x : Int) = ((if y % 2 = 1 then z ^^^ x else z : Nat) : Int) := by
  rw [and1 y (by omega)] at h
  have h2 : y % 2 = 1 := by have := of_decide_eq_true h; omega
  rw [if_pos h2, xorN z x (by omega) (by omega)]
theorem odd_no {x y z : Nat} (hy : y < 256) (h : (bits .and .i64 (y : Int) 1 == 1) = false) : (z : Int) = ((if y % 2 = 1 then z ^^^ x else z : Nat) : Int) := by
  rw [and1 y (by omega)] at h
  have h2 : ¬ y % 2 = 1 := by have := of_decide_eq_false h; omega
  rw [if_neg h2]
theorem odd_lt {x y z : Nat} (hx : x < 256) (hz : z < 256) : (if y % 2 = 1 then z ^^^ x else z) < 256 := by
  split
  · exact xor_lt256 hz hx
  · exact hz
theorem int_eq {a b : Int} (h : a = b) : Value.int .i64 a = .int .i64 b := by rw [h]
theorem iMul256_yes (A B : Nat) (hA : A < 256) (hB : B < 256) (w : World) :
    Calls Try.prog 42 #[.int .i64 A, .int .i64 B] w fun e w' => e = .returned (.int .i64 (mulR A B)) ∧ Below w.heap.size w w' := by
  have hr : allRow [(A : Int), (B : Int)] = true := by
    have h1 : rowB A = true := inB_iff.2 ⟨by omega, by omega⟩
    have h2 : rowB B = true := inB_iff.2 ⟨by omega, by omega⟩
    simp [allRow, h1, h2]
  go_enter Try.func42, Try.ntmps42
  go_wp2_with (go_at_call 74; refine (isRow_any _ 2 _ [(A : Int), (B : Int)] _ (Ints.new _ [(A : Int), (B : Int)] _ (by simp) rfl) (by omega)).mono ?_; rintro e w' ⟨rfl, rfl⟩)
  go_loop [0, 1, 5] (fun a b o => ∃ f x y z : Nat, f ≤ 8 ∧ x < 256 ∧ z < 256 ∧ y < 256 ∧ a = .int .i64 x ∧ b = .int .i64 y ∧ o = .int .i64 z ∧ Hid (y < 2 ^ f ∧ mulAcc f x y z = mulN A B)) (fun _ b _ => (intOf b).toNat)
  case atStart => exact ⟨8, A, B, 0, by omega, hA, by omega, hB, rfl, rfl, rfl, hB, rfl⟩
  case round =>
    obtain ⟨f, x, y, z, hf, hx, hz, hy, rfl, rfl, rfl, H⟩ := hrel
    by_cases hy0 : 0 < y
    · go_wp2
      all_goals
        obtain ⟨g, hg, hyg, hT⟩ := mul_round hf hy0 H.out.1 H.out.2
        go_round
        case rel => exact ⟨g, xt x, y / 2, _, by omega, xt_lt hx, odd_lt hx hz, by omega, int_eq (by first | exact xt_hi hx (by assumption) | exact xt_lo (by assumption)), int_eq (by omega), int_eq (by first | exact odd_yes hx hz hy (by assumption) | exact odd_no hy (by assumption)), hyg, hT⟩
        case measure => simp [intOf]; omega
    · go_wp2
      go_ret
      have h0 : y = 0 := by omega
      subst h0
      have hT := H.out.2
      rw [mulAcc_zero] at hT
      exact ⟨ret_int (by rw [mulR_nat hA hB, hT]), (Below.refl _ _).alloc (Nat.le_refl _) _⟩
theorem iMul256_any (a b : Int) (w : World) :
    Calls Try.prog 42 #[.int .i64 a, .int .i64 b] w fun e w' => e = .returned (.int .i64 (mulR a b)) ∧ Below w.heap.size w w' := by
  by_cases h : (rowB a && rowB b) = true
  · have h1 := h
    simp only [Bool.and_eq_true] at h1
    obtain ⟨A, rfl, hA⟩ := nat_of h1.1 (by omega)
    obtain ⟨B, rfl, hB⟩ := nat_of h1.2 (by omega)
    exact iMul256_yes A B (by omega) (by omega) w
  · have hno : (rowB a && rowB b) = false := by simpa using h
    have hr : allRow [a, b] = false := by simpa [allRow] using hno
    have hm := Lib.hid (mulR_no hno)
    clear h
    go_enter Try.func42, Try.ntmps42
    go_wp2_with (go_at_call 74; refine (isRow_any _ 2 _ [a, b] _ (Ints.new _ [a, b] _ (by simp) rfl) (by omega)).mono ?_; rintro e w' ⟨rfl, rfl⟩)
    go_ret
    exact ⟨ret_int hm.out.symm, (Below.refl _ _).alloc (Nat.le_refl _) _⟩
theorem mul_step {k x B z T : Nat} (hk : k < 8) (h : mulAcc (8 - k) x (B / 2 ^ k) z = T) : mulAcc (8 - (k + 1)) (xt x) (B / 2 ^ (k + 1)) (if B / 2 ^ k % 2 = 1 then z ^^^ x else z) = T := by
  obtain ⟨j, hj⟩ : ∃ j, 8 - k = j + 1 := ⟨7 - k, by omega⟩
  have hj2 : 8 - (k + 1) = j := by omega
  rw [hj, mulAcc, Nat.div_div_eq_div_mul, ← Nat.pow_succ] at h
  rw [hj2]
  exact h
theorem sMul256_yes (A B : Nat) (hA : A < 256) (hB : B < 256) (w : World) :
    Calls Try.prog 41 #[.int .i64 A, .int .i64 B] w fun e w' => e = .returned (.int .i64 (mulR A B)) ∧ w = w' := by
  have h1 : rowB A = true := inB_iff.2 ⟨by omega, by omega⟩
  have h2 : rowB B = true := inB_iff.2 ⟨by omega, by omega⟩
  go_enter Try.func41, Try.ntmps41
  go_wp2_with (go_at_call 73; refine (l22Row_any _ _).mono ?_; rintro e w' ⟨rfl, rfl⟩)
  go_loop [0, 5, 6] (fun a n i => ∃ k x z : Nat, k ≤ 8 ∧ x < 256 ∧ z < 256 ∧ a = .int .i64 x ∧ n = .int .i64 z ∧ i = .int .i64 k ∧ Hid (mulAcc (8 - k) x (B / 2 ^ k) z = mulN A B)) (fun _ _ i => 8 - (intOf i).toNat)
  case atStart => exact ⟨0, A, 0, by omega, hA, by omega, rfl, rfl, rfl, by show mulAcc 8 A (B / 1) 0 = _; rw [Nat.div_one]; rfl⟩
  case round =>
    obtain ⟨k, x, z, hk, hx, hz, rfl, rfl, rfl, H⟩ := hrel
    by_cases hlt : k < 8
    · go_wp2
      all_goals
        have hB2 : B / 2 ^ k < 256 := Nat.lt_of_le_of_lt (Nat.div_le_self _ _) hB
        have hc : (B : Int) / 2 ^ k = ((B / 2 ^ k : Nat) : Int) := by simp
        have hT := mul_step hlt H.out
        go_round
        case rel => exact ⟨k + 1, xt x, _, by omega, xt_lt hx, odd_lt (y := B / 2 ^ k) hx hz, int_eq (by first | exact xt_hi hx (by assumption) | exact xt_lo (by assumption)), int_eq (by first | exact odd_yes hx hz hB2 (by rw [← hc]; assumption) | exact odd_no hB2 (by rw [← hc]; assumption)), by go_num, hT⟩
        case measure => simp [intOf]; omega
    · go_wp2
      go_ret
      obtain rfl : k = 8 := by omega
      exact ⟨ret_int (by rw [mulR_nat hA hB, ← H.out]; rfl), rfl⟩
theorem sMul256_same (a b : Int) (w : World) :
    Calls Try.prog 41 #[.int .i64 a, .int .i64 b] w fun e w' => e = .returned (.int .i64 (mulR a b)) ∧ w = w' := by
  by_cases h : (rowB a && rowB b) = true
  · have h1 := h
    simp only [Bool.and_eq_true] at h1
    obtain ⟨A, rfl, hA⟩ := nat_of h1.1 (by omega)
    obtain ⟨B, rfl, hB⟩ := nat_of h1.2 (by omega)
    exact sMul256_yes A B (by omega) (by omega) w
  · have hno : (rowB a && rowB b) = false := by simpa using h
    have hm := Lib.hid (mulR_no hno)
    clear h
    by_cases ha : rowB a = true
    · have hb : rowB b = false := by simpa [ha] using hno
      clear hno
      go_enter Try.func41, Try.ntmps41
      go_wp2_with (go_at_call 73; refine (l22Row_any _ _).mono ?_; rintro e w' ⟨rfl, rfl⟩)
      go_ret
      exact ⟨ret_int hm.out.symm, rfl⟩
    · have hb : rowB a = false := by simpa using ha
      clear hno ha
      go_enter Try.func41, Try.ntmps41
      go_wp2_with (go_at_call 73; refine (l22Row_any _ _).mono ?_; rintro e w' ⟨rfl, rfl⟩)
      go_ret
      exact ⟨ret_int hm.out.symm, rfl⟩
theorem sMul256_any (a b : Int) (w : World) :
    Calls Try.prog 41 #[.int .i64 a, .int .i64 b] w fun e w' => e = .returned (.int .i64 (mulR a b)) ∧ Below w.heap.size w w' :=
  (sMul256_same a b w).mono fun _ _ ⟨h1, h2⟩ => ⟨h1, by rw [← h2]; exact Below.refl _ _⟩
theorem walk_FnExactMul256 (a b : Int) (w : World) :
    Calls Try.prog 10 #[.int .i64 a, .int .i64 b] w fun e w' => e = .returned (.bool true) ∧ Below w.heap.size w w' := by
  go_enter Try.func10, Try.ntmps10
  go_wp2_with fail; refine (sMul256_any _ _ _).mono ?_; rintro e w1 ⟨rfl, hb1⟩; obtain ⟨hc1, hf1⟩ := bcell hb1; have hz1 := hb1.size; (try simp only [World.size_alloc] at hz1 hc1 hf1); (try have : w.heap.size < w1.heap.size := (by omega)); (try have : w.heap.size + 1 < w1.heap.size := (by omega)); (try have : w.heap.size + 2 < w1.heap.size := (by omega)); (try have : w.heap.size + 3 < w1.heap.size := (by omega)); (try have : w.heap.size + 4 < w1.heap.size := (by omega))
  go_wp2_with fail; refine (iMul256_any _ _ _).mono ?_; rintro e w2 ⟨rfl, hb2⟩; obtain ⟨hc2, hf2⟩ := bcell hb2; have hz2 := hb2.size; (try simp only [World.size_alloc] at hz2 hc2 hf2); (try have : w.heap.size < w2.heap.size := (by omega)); (try have : w.heap.size + 1 < w2.heap.size := (by omega)); (try have : w.heap.size + 2 < w2.heap.size := (by omega)); (try have : w.heap.size + 3 < w2.heap.size := (by omega)); (try have : w.heap.size + 4 < w2.heap.size := (by omega)); (try have : w1.heap.size < w2.heap.size := (by omega)); (try have : w1.heap.size + 1 < w2.heap.size := (by omega)); (try have : w1.heap.size + 2 < w2.heap.size := (by omega)); (try have : w1.heap.size + 3 < w2.heap.size := (by omega)); (try have : w1.heap.size + 4 < w2.heap.size := (by omega))
  go_wp2
  go_ret
  refine ⟨rfl, ?_⟩
  repeat (first | exact Below.refl _ _ | refine Below.alloc ?_ (by first | omega | (simp; done) | (simp; omega)) _ | refine Below.setCell ?_ (by first | omega | (simp; done) | (simp; omega)) _ | refine Below.drew ?_ | refine below_drewN ?_ _ | refine Below.trans ?_ (hb30.mono (by first | omega | (simp; done) | (simp; omega))) | refine Below.trans ?_ (hb29.mono (by first | omega | (simp; done) | (simp; omega))) | refine Below.trans ?_ (hb28.mono (by first | omega | (simp; done) | (simp; omega))) | refine Below.trans ?_ (hb27.mono (by first | omega | (simp; done) | (simp; omega))) | refine Below.trans ?_ (hb26.mono (by first | omega | (simp; done) | (simp; omega))) | refine Below.trans ?_ (hb25.mono (by first | omega | (simp; done) | (simp; omega))) | refine Below.trans ?_ (hb24.mono (by first | omega | (simp; done) | (simp; omega))) | refine Below.trans ?_ (hb23.mono (by first | omega | (simp; done) | (simp; omega))) | refine Below.trans ?_ (hb22.mono (by first | omega | (simp; done) | (simp; omega))) | refine Below.trans ?_ (hb21.mono (by first | omega | (simp; done) | (simp; omega))) | refine Below.trans ?_ (hb20.mono (by first | omega | (simp; done) | (simp; omega))) | refine Below.trans ?_ (hb19.mono (by first | omega | (simp; done) | (simp; omega))) | refine Below.trans ?_ (hb18.mono (by first | omega | (simp; done) | (simp; omega))) | refine Below.trans ?_ (hb17.mono (by first | omega | (simp; done) | (simp; omega))) | refine Below.trans ?_ (hb16.mono (by first | omega | (simp; done) | (simp; omega))) | refine Below.trans ?_ (hb15.mono (by first | omega | (simp; done) | (simp; omega))) | refine Below.trans ?_ (hb14.mono (by first | omega | (simp; done) | (simp; omega))) | refine Below.trans ?_ (hb13.mono (by first | omega | (simp; done) | (simp; omega))) | refine Below.trans ?_ (hb12.mono (by first | omega | (simp; done) | (simp; omega))) | refine Below.trans ?_ (hb11.mono (by first | omega | (simp; done) | (simp; omega))) | refine Below.trans ?_ (hb10.mono (by first | omega | (simp; done) | (simp; omega))) | refine Below.trans ?_ (hb9.mono (by first | omega | (simp; done) | (simp; omega))) | refine Below.trans ?_ (hb8.mono (by first | omega | (simp; done) | (simp; omega))) | refine Below.trans ?_ (hb7.mono (by first | omega | (simp; done) | (simp; omega))) | refine Below.trans ?_ (hb6.mono (by first | omega | (simp; done) | (simp; omega))) | refine Below.trans ?_ (hb5.mono (by first | omega | (simp; done) | (simp; omega))) | refine Below.trans ?_ (hb4.mono (by first | omega | (simp; done) | (simp; omega))) | refine Below.trans ?_ (hb3.mono (by first | omega | (simp; done) | (simp; omega))) | refine Below.trans ?_ (hb2.mono (by first | omega | (simp; done) | (simp; omega))) | refine Below.trans ?_ (hb1.mono (by first | omega | (simp; done) | (simp; omega))))
end Go.Proofs.Ytakmgghjpompoaa

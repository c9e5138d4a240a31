/- Contracts of the words' functions: IsWord, Mix, Keyed, HashLabel, the program's and the reference's. -/
import Derived.Test.YtodnahpegecpiaaSlices
import Derived.Test.YtodnahpegecpiaaBits
namespace Go.Proofs.Ytodnahpegecpiaa
set_option linter.unusedSimpArgs false
set_option linter.unusedVariables false
open Go.RowKit
def word (x : Int) : Bool := inB x 0 4294967295
/-- Half of a mixing. -/
def halfN (x : Nat) : Nat := ((x ^^^ x / 65536) * 73244475) % 4294967296
def iterH (x : Nat) : Nat → Nat
  | 0 => x
  | k + 1 => halfN (iterH x k)
def mixN (x : Nat) : Nat := halfN (halfN x) ^^^ halfN (halfN x) / 65536
def keyedN (k a b : Nat) : Nat := mixN (mixN (mixN k ^^^ a) ^^^ b)
theorem xor_word {a b : Nat} (ha : a < 4294967296) (hb : b < 4294967296) : a ^^^ b < 4294967296 := Nat.xor_lt_two_pow (n := 32) ha hb
theorem halfN_lt (x : Nat) : halfN x < 4294967296 := Nat.mod_lt _ (by omega)
theorem mixN_lt (x : Nat) : mixN x < 4294967296 := xor_word (halfN_lt _) (by have := halfN_lt (halfN x); omega)
theorem keyedN_lt (k a b : Nat) : keyedN k a b < 4294967296 := mixN_lt _
/-- A keyed word; 0 where an argument is no word. -/
def keyedI (k a b : Int) : Int := if word k && word a && word b then ((keyedN k.toNat a.toNat b.toNat : Nat) : Int) else 0
theorem xor16 {x : Nat} (hx : x < 4294967296) : bits .xor .i64 (x : Int) ((x : Int) / 65536) = ((x ^^^ x / 65536 : Nat) : Int) := by
  have := xorN x (x / 65536) (by omega) (by omega)
  rw [← this]
  congr 1
theorem half_eq {x : Nat} (hx : x < 4294967296) : bits .and .i64 (((x ^^^ x / 65536 : Nat) : Int) * 73244475) 4294967295 = ((halfN x : Nat) : Int) := by
  have hl := xor_word hx (b := x / 65536) (by omega)
  have h := andN ((x ^^^ x / 65536) * 73244475) 4294967295 (by omega) (by omega)
  have e : ((x ^^^ x / 65536) * 73244475) &&& 4294967295 = halfN x := Nat.and_two_pow_sub_one_eq_mod _ 32
  rw [e] at h
  rw [← h]
  congr 1
theorem word_nat {x : Int} (h : word x = true) : ∃ n : Nat, x = n ∧ n < 4294967296 := by
  obtain ⟨n, e, hn⟩ := nat_of h (by omega)
  exact ⟨n, e, by omega⟩
theorem nat_word {n : Nat} (h : n < 4294967296) : word n = true := inB_iff.2 ⟨by omega, by omega⟩
theorem keyedI_nat {k a b : Nat} (hk : k < 4294967296) (ha : a < 4294967296) (hb : b < 4294967296) : keyedI k a b = (keyedN k a b : Nat) := by
  simp [keyedI, nat_word hk, nat_word ha, nat_word hb]
theorem keyedI_bd (k a b : Int) : 0 ≤ keyedI k a b ∧ keyedI k a b < 4294967296 := by
  unfold keyedI
  split
  · have := keyedN_lt k.toNat a.toNat b.toNat; omega
  · omega
theorem sIsWord_any (a : Int) (w : World) :
    Calls Try.prog 131 #[.int .i64 a] w fun e w' => e = .returned (.bool (word a)) ∧ w = w' := by
  go_enter Try.func131, Try.ntmps131
  go_wp2_with (go_at_call 96; refine (l01In_any _ _ _ _).mono ?_; rintro e w' ⟨rfl, rfl⟩)
  go_ret
  exact ⟨rfl, rfl⟩
set_option maxRecDepth 100000 in
theorem sMix_nat (x : Nat) (hx : x < 4294967296) (w : World) :
    Calls Try.prog 132 #[.int .i64 x] w fun e w' => e = .returned (.int .i64 (mixN x)) ∧ w = w' := by
  have hw := nat_word hx
  go_enter Try.func132, Try.ntmps132
  go_wp2_with (go_at_call 131; refine (sIsWord_any _ _).mono ?_; rintro e w' ⟨rfl, rfl⟩)
  go_loop [0, 3] (fun y i => ∃ k z : Nat, k ≤ 2 ∧ z < 4294967296 ∧ i = .int .i64 k ∧ y = .int .i64 z ∧ Hid (z = iterH x k)) (fun _ i => 2 - (intOf i).toNat)
  case atStart => exact ⟨0, x, by omega, hx, rfl, rfl, by show x = iterH x 0; rw [iterH]⟩
  case round =>
    obtain ⟨k, z, hk, hz, rfl, rfl, H⟩ := hrel
    have hl := xor_word hz (b := z / 65536) (by omega)
    have e1 := xor16 hz
    have e2 := half_eq hz
    have hh := halfN_lt z
    by_cases hlt : k < 2
    · go_wp2
      go_round
      case rel =>
        have hH := H.out
        exact ⟨k + 1, halfN z, by omega, hh, by go_num, rfl, by show halfN z = iterH x (k + 1); rw [iterH, ← hH]⟩
      case measure => simp [intOf]; omega
    · go_wp2
      go_ret
      have hH := H.out
      obtain rfl : k = 2 := by omega
      rw [iterH, iterH, iterH] at hH
      exact ⟨ret_int (by rw [mixN, ← hH]), rfl⟩
set_option maxRecDepth 100000 in
theorem sKeyed_nat (k a b : Nat) (hk : k < 4294967296) (ha : a < 4294967296) (hb : b < 4294967296) (w : World) :
    Calls Try.prog 121 #[.int .i64 k, .int .i64 a, .int .i64 b] w fun e w' => e = .returned (.int .i64 (keyedN k a b)) ∧ w = w' := by
  have h1 := nat_word hk
  have h2 := nat_word ha
  have h3 := nat_word hb
  have m1 := mixN_lt k
  have x1 := xor_word m1 ha
  have m2 := mixN_lt (mixN k ^^^ a)
  have x2 := xor_word m2 hb
  have e1 := xorN (mixN k) a (by omega) (by omega)
  have e2 := xorN (mixN (mixN k ^^^ a)) b (by omega) (by omega)
  go_enter Try.func121, Try.ntmps121
  go_wp2_with (go_at_call 131; refine (sIsWord_any _ _).mono ?_; rintro e w' ⟨rfl, rfl⟩)
  refine (sMix_nat k hk _).mono ?_
  rintro e w' ⟨rfl, rfl⟩
  go_wp2_with fail
  refine (sMix_nat _ x1 _).mono ?_
  rintro e w' ⟨rfl, rfl⟩
  go_wp2_with fail
  refine (sMix_nat _ x2 _).mono ?_
  rintro e w' ⟨rfl, rfl⟩
  go_wp2_with fail
  go_ret
  exact ⟨ret_int (by rw [keyedN]), rfl⟩
theorem sKeyed_any (k a b : Int) (w : World) :
    Calls Try.prog 121 #[.int .i64 k, .int .i64 a, .int .i64 b] w fun e w' => e = .returned (.int .i64 (keyedI k a b)) ∧ w = w' := by
  by_cases h1 : word k = true
  · by_cases h2 : word a = true
    · by_cases h3 : word b = true
      · obtain ⟨k, rfl, hk⟩ := word_nat h1
        obtain ⟨a, rfl, ha⟩ := word_nat h2
        obtain ⟨b, rfl, hb⟩ := word_nat h3
        rw [keyedI_nat hk ha hb]
        exact sKeyed_nat k a b hk ha hb w
      · have h3' : word b = false := by simpa using h3
        go_enter Try.func121, Try.ntmps121
        go_wp2_with (go_at_call 131; refine (sIsWord_any _ _).mono ?_; rintro e w' ⟨rfl, rfl⟩)
        go_ret
        exact ⟨ret_int (by simp [keyedI, h3']), rfl⟩
    · have h2' : word a = false := by simpa using h2
      go_enter Try.func121, Try.ntmps121
      go_wp2_with (go_at_call 131; refine (sIsWord_any _ _).mono ?_; rintro e w' ⟨rfl, rfl⟩)
      go_ret
      exact ⟨ret_int (by simp [keyedI, h2']), rfl⟩
  · have h1' : word k = false := by simpa using h1
    go_enter Try.func121, Try.ntmps121
    go_wp2_with (go_at_call 131; refine (sIsWord_any _ _).mono ?_; rintro e w' ⟨rfl, rfl⟩)
    go_ret
    exact ⟨ret_int (by simp [keyedI, h1']), rfl⟩
theorem iIsWord_any (a : Int) (w : World) :
    Calls Try.prog 118 #[.int .i64 a] w fun e w' => e = .returned (.bool (word a)) ∧ w = w' := by
  go_enter Try.func118, Try.ntmps118
  go_wp2_with (go_at_call 100; refine (within_any _ _ _ _).mono ?_; rintro e w' ⟨rfl, rfl⟩)
  go_ret
  exact ⟨rfl, rfl⟩
set_option maxRecDepth 100000 in
theorem iMix_nat (x : Nat) (hx : x < 4294967296) (w : World) :
    Calls Try.prog 130 #[.int .i64 x] w fun e w' => e = .returned (.int .i64 (mixN x)) ∧ w = w' := by
  have hw := nat_word hx
  go_enter Try.func130, Try.ntmps130
  go_wp2_with (go_at_call 118; refine (iIsWord_any _ _).mono ?_; rintro e w' ⟨rfl, rfl⟩)
  go_loop [0, 3] (fun y i => ∃ k z : Nat, k ≤ 2 ∧ z < 4294967296 ∧ i = .int .i64 k ∧ y = .int .i64 z ∧ Hid (z = iterH x k)) (fun _ i => 2 - (intOf i).toNat)
  case atStart => exact ⟨0, x, by omega, hx, rfl, rfl, by show x = iterH x 0; rw [iterH]⟩
  case round =>
    obtain ⟨k, z, hk, hz, rfl, rfl, H⟩ := hrel
    have hl := xor_word hz (b := z / 65536) (by omega)
    have e1 := xor16 hz
    have e2 := half_eq hz
    have hh := halfN_lt z
    by_cases hlt : k < 2
    · go_wp2
      go_round
      case rel =>
        have hH := H.out
        exact ⟨k + 1, halfN z, by omega, hh, by go_num, rfl, by show halfN z = iterH x (k + 1); rw [iterH, ← hH]⟩
      case measure => simp [intOf]; omega
    · go_wp2
      go_ret
      have hH := H.out
      obtain rfl : k = 2 := by omega
      rw [iterH, iterH, iterH] at hH
      exact ⟨ret_int (by rw [mixN, ← hH]), rfl⟩
set_option maxRecDepth 100000 in
theorem iKeyed_nat (k a b : Nat) (hk : k < 4294967296) (ha : a < 4294967296) (hb : b < 4294967296) (w : World) :
    Calls Try.prog 119 #[.int .i64 k, .int .i64 a, .int .i64 b] w fun e w' => e = .returned (.int .i64 (keyedN k a b)) ∧ w = w' := by
  have h1 := nat_word hk
  have h2 := nat_word ha
  have h3 := nat_word hb
  have m1 := mixN_lt k
  have x1 := xor_word m1 ha
  have m2 := mixN_lt (mixN k ^^^ a)
  have x2 := xor_word m2 hb
  have e1 := xorN (mixN k) a (by omega) (by omega)
  have e2 := xorN (mixN (mixN k ^^^ a)) b (by omega) (by omega)
  go_enter Try.func119, Try.ntmps119
  go_wp2_with (go_at_call 118; refine (iIsWord_any _ _).mono ?_; rintro e w' ⟨rfl, rfl⟩)
  refine (iMix_nat k hk _).mono ?_
  rintro e w' ⟨rfl, rfl⟩
  go_wp2_with fail
  refine (iMix_nat _ x1 _).mono ?_
  rintro e w' ⟨rfl, rfl⟩
  go_wp2_with fail
  refine (iMix_nat _ x2 _).mono ?_
  rintro e w' ⟨rfl, rfl⟩
  go_wp2_with fail
  go_ret
  exact ⟨ret_int (by rw [keyedN]), rfl⟩
theorem iKeyed_any (k a b : Int) (w : World) :
    Calls Try.prog 119 #[.int .i64 k, .int .i64 a, .int .i64 b] w fun e w' => e = .returned (.int .i64 (keyedI k a b)) ∧ w = w' := by
  by_cases h1 : word k = true
  · by_cases h2 : word a = true
    · by_cases h3 : word b = true
      · obtain ⟨k, rfl, hk⟩ := word_nat h1
        obtain ⟨a, rfl, ha⟩ := word_nat h2
        obtain ⟨b, rfl, hb⟩ := word_nat h3
        rw [keyedI_nat hk ha hb]
        exact iKeyed_nat k a b hk ha hb w
      · have h3' : word b = false := by simpa using h3
        go_enter Try.func119, Try.ntmps119
        go_wp2_with (go_at_call 118; refine (iIsWord_any _ _).mono ?_; rintro e w' ⟨rfl, rfl⟩)
        go_ret
        exact ⟨ret_int (by simp [keyedI, h3']), rfl⟩
    · have h2' : word a = false := by simpa using h2
      go_enter Try.func119, Try.ntmps119
      go_wp2_with (go_at_call 118; refine (iIsWord_any _ _).mono ?_; rintro e w' ⟨rfl, rfl⟩)
      go_ret
      exact ⟨ret_int (by simp [keyedI, h2']), rfl⟩
  · have h1' : word k = false := by simpa using h1
    go_enter Try.func119, Try.ntmps119
    go_wp2_with (go_at_call 118; refine (iIsWord_any _ _).mono ?_; rintro e w' ⟨rfl, rfl⟩)
    go_ret
    exact ⟨ret_int (by simp [keyedI, h1']), rfl⟩
end Go.Proofs.Ytodnahpegecpiaa

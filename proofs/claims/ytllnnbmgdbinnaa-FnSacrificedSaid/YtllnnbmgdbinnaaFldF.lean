/- Contracts of the field's functions, the program's and the reference's. -/
import Derived.Test.YtllnnbmgdbinnaaFldL
import Derived.Test.YtllnnbmgdbinnaaSlices
import Derived.Test.YtllnnbmgdbinnaaBits
namespace Go.Proofs.Ytllnnbmgdbinnaa
set_option linter.unusedSimpArgs false
set_option linter.unusedVariables false
open Go.RowKit
theorem fOk_out {p : Int} (h : inB p 2 101 = false) : fOk p = false := by simp [fOk, h]
theorem fOk_div {P k : Nat} (hk2 : 2 ≤ k) (hk : k < P) (h : P % k = 0) : fOk P = false := by
  by_cases hb : P < 102
  · have := fOk_no1 P hb k (by omega) hk2 hk h
    unfold fOk; rw [show ((P : Nat) : Int).toNat = P from rfl, this]; simp
  · exact fOk_out (by simp [inB]; omega)
theorem fOk_sq {P k : Nat} (hP : P < 102) (hP2 : 2 ≤ P) (hk : P < k * k) (h : ∀ e, 2 ≤ e → e < k → P % e ≠ 0) : fOk P = true := by
  cases hc : primes.contains P with
  | true => unfold fOk; rw [show ((P : Nat) : Int).toNat = P from rfl, hc, inB_iff.2 (by omega)]; rfl
  | false =>
    obtain ⟨d, hd, hd2, hdd, hm⟩ := fOk_yes1 P hP hP2 hc
    have : d < k := by
      by_cases hlt : d < k
      · exact hlt
      · have := Nat.mul_le_mul (show k ≤ d by omega) (show k ≤ d by omega); omega
    exact absurd hm (h d hd2 this)
theorem no_div_step {P k : Nat} (h : ∀ e, 2 ≤ e → e < k → P % e ≠ 0) (hk : P % k ≠ 0) : ∀ e, 2 ≤ e → e < k + 1 → P % e ≠ 0 := by
  intro e h2 he
  by_cases hek : e = k
  · subst hek; exact hk
  · exact h e h2 (by omega)
set_option maxRecDepth 100000 in
theorem sFieldOk_any (p : Int) (w : World) :
    Calls Try.prog 110 #[.int .i64 p] w fun e w' => e = .returned (.bool (fOk p)) ∧ w = w' := by
  by_cases hb : inB p 2 101 = true
  · obtain ⟨P, rfl, hP⟩ := nat_of hb (by omega)
    have hP2 : 2 ≤ P := by have := (inB_iff.1 hb).1; omega
    have hP1 : P < 102 := by omega
    go_enter Try.func110, Try.ntmps110
    go_wp2_with (first | (go_at_call 93; refine (l01In_any _ _ _ _).mono ?_; rintro e w' ⟨rfl, rfl⟩))
    go_loop [3] (fun d => ∃ k : Nat, 2 ≤ k ∧ k ≤ 11 ∧ d = .int .i64 k ∧ Hid (∀ e, 2 ≤ e → e < k → P % e ≠ 0)) (fun d => 12 - (intOf d).toNat)
    case atStart => exact ⟨2, by omega, by omega, rfl, fun e h1 h2 => by omega⟩
    case round =>
      obtain ⟨k, hk2, hk, rfl, H⟩ := hrel
      have hkk : (k : Int) * (k : Int) = ((k * k : Nat) : Int) := by simp
      have hk121 : k * k ≤ 121 := Nat.mul_le_mul hk hk
      have hb2 : 0 ≤ (k : Int) * (k : Int) ∧ (k : Int) * (k : Int) ≤ 121 := by rw [hkk]; omega
      obtain ⟨hb3, hb4⟩ := hb2
      by_cases hlt : k * k ≤ P
      · have hlt' : (k : Int) * (k : Int) ≤ (P : Int) := by rw [hkk]; omega
        have hk10 := sq_bd hlt hP1
        have hkP : k < P := by have := Nat.mul_le_mul hk2 (Nat.le_refl k); omega
        have HK := Lib.hid hkk
        clear hkk
        by_cases hd : P % k = 0
        · have he : ((P : Int) % (k : Int) == 0) = true := by rw [beq_iff_eq]; exact_mod_cast hd
          have hf := Lib.hid (fOk_div hk2 hkP hd)
          clear hd
          go_wp2
          go_ret
          exact ⟨ret_bool hf.out.symm, rfl⟩
        · have he : ((P : Int) % (k : Int) == 0) = false := by rw [beq_eq_false_iff_ne]; exact_mod_cast hd
          have hn := Lib.hid (no_div_step H.out hd)
          clear hd
          go_wp2
          go_round
          case rel => exact ⟨k + 1, by omega, by omega, by go_num, hn.out⟩
          case measure => simp [intOf]; omega
      · have hlt' : ¬ (k : Int) * (k : Int) ≤ (P : Int) := by rw [hkk]; omega
        have hf := Lib.hid (fOk_sq hP1 hP2 (by omega) H.out)
        clear hkk
        go_wp2
        go_ret
        exact ⟨ret_bool hf.out.symm, rfl⟩
  · have hb' : inB p 2 101 = false := by simpa using hb
    have hf := Lib.hid (fOk_out hb')
    clear hb
    go_enter Try.func110, Try.ntmps110
    go_wp2_with (first | (go_at_call 93; refine (l01In_any _ _ _ _).mono ?_; rintro e w' ⟨rfl, rfl⟩))
    go_ret
    exact ⟨ret_bool hf.out.symm, rfl⟩
theorem fOk_last {P k : Nat} (hP2 : 2 ≤ P) (hP : P < 102) (hk : P ≤ k) (h : ∀ e, 2 ≤ e → e < k → P % e ≠ 0) : fOk P = true := by
  refine fOk_sq hP hP2 (k := P) ?_ fun e h2 he => h e h2 (by omega)
  have := Nat.mul_le_mul hP2 (Nat.le_refl P); omega
set_option maxRecDepth 100000 in
theorem iFieldOk_any (p : Int) (w : World) :
    Calls Try.prog 113 #[.int .i64 p] w fun e w' => e = .returned (.bool (fOk p)) ∧ w = w' := by
  by_cases h2 : p ≤ 2
  · have hf : Hid (fOk p = inB p 2 101) := by
      show fOk p = inB p 2 101
      by_cases e2 : p = 2
      · subst e2; rfl
      · simp [fOk, inB]; omega
    have hlt : ¬ 2 < p := by omega
    go_enter Try.func113, Try.ntmps113
    go_wp2
    refine wp_loop_rounds 1 ?_
    rw [rounds_succ]
    go_wp2_with (first | (go_at_call 96; refine (within_any _ _ _ _).mono ?_; rintro e w' ⟨rfl, rfl⟩))
    go_ret
    exact ⟨ret_bool hf.out.symm, rfl⟩
  · obtain ⟨P, rfl⟩ := Int.eq_ofNat_of_zero_le (show 0 ≤ p by omega)
    go_enter Try.func113, Try.ntmps113
    go_wp2
    go_loop [3] (fun d => ∃ k : Nat, 2 ≤ k ∧ k ≤ 102 ∧ k ≤ P ∧ d = .int .i64 k ∧ Hid (∀ e, 2 ≤ e → e < k → P % e ≠ 0)) (fun d => 103 - (intOf d).toNat)
    case atStart => exact ⟨2, by omega, by omega, by omega, rfl, fun e h1 h2 => by omega⟩
    case round =>
      obtain ⟨k, hk2, hk, hkP, rfl, H⟩ := hrel
      by_cases hlt : (k : Int) < (P : Int)
      · by_cases h101 : (k : Int) ≤ 101
        · by_cases hd : P % k = 0
          · have he : ((P : Int) % (k : Int) == 0) = true := by rw [beq_iff_eq]; exact_mod_cast hd
            have hf := Lib.hid (fOk_div hk2 (by omega) hd)
            clear hd
            go_wp2
            go_ret
            exact ⟨ret_bool hf.out.symm, rfl⟩
          · have he : ((P : Int) % (k : Int) == 0) = false := by rw [beq_eq_false_iff_ne]; exact_mod_cast hd
            have hn := Lib.hid (no_div_step H.out hd)
            clear hd
            go_wp2
            go_round
            case rel => exact ⟨k + 1, by omega, by omega, by omega, by go_num, hn.out⟩
            case measure => simp [intOf]; omega
        · have hf : Hid (fOk P = inB P 2 101) := by
            show fOk P = inB P 2 101
            have e : inB (P : Int) 2 101 = false := by simp [inB]; omega
            rw [e]; exact fOk_out e
          go_wp2_with (first | (go_at_call 96; refine (within_any _ _ _ _).mono ?_; rintro e w' ⟨rfl, rfl⟩))
          go_ret
          exact ⟨ret_bool hf.out.symm, rfl⟩
      · have hf : Hid (fOk P = inB P 2 101) := by
          show fOk P = inB P 2 101
          by_cases hP : P < 102
          · have e : inB (P : Int) 2 101 = true := by simp [inB]; omega
            rw [e]; exact fOk_last (by omega) hP (by omega) H.out
          · have e : inB (P : Int) 2 101 = false := by simp [inB]; omega
            rw [e]; exact fOk_out e
        go_wp2_with (first | (go_at_call 96; refine (within_any _ _ _ _).mono ?_; rintro e w' ⟨rfl, rfl⟩))
        go_ret
        exact ⟨ret_bool hf.out.symm, rfl⟩
set_option maxRecDepth 100000 in
theorem sIsElement_any (p a : Int) (w : World) :
    Calls Try.prog 103 #[.int .i64 p, .int .i64 a] w fun e w' => e = .returned (.bool (elem p a)) ∧ w = w' := by
  by_cases hf : fOk p = true
  · obtain ⟨h1, h2⟩ := fOk_bd hf
    have he : elem p a = inB a 0 (p - 1) := by simp [elem, hf]
    have HE := Lib.hid he
    clear he
    go_enter Try.func103, Try.ntmps103
    go_wp2_with fail
    refine (sFieldOk_any _ _).mono ?_
    rintro e w' ⟨rfl, rfl⟩
    go_wp2_with (first | (go_at_call 93; refine (l01In_any _ _ _ _).mono ?_; rintro e w' ⟨rfl, rfl⟩))
    go_ret
    exact ⟨ret_bool HE.out.symm, rfl⟩
  · have hf' : fOk p = false := by simpa using hf
    have HE := Lib.hid (show elem p a = false by simp [elem, hf'])
    clear hf
    go_enter Try.func103, Try.ntmps103
    go_wp2_with fail
    refine (sFieldOk_any _ _).mono ?_
    rintro e w' ⟨rfl, rfl⟩
    go_wp2
    go_ret
    exact ⟨ret_bool HE.out.symm, rfl⟩
set_option maxRecDepth 100000 in
theorem iIsElement_any (p a : Int) (w : World) :
    Calls Try.prog 98 #[.int .i64 p, .int .i64 a] w fun e w' => e = .returned (.bool (elem p a)) ∧ w = w' := by
  by_cases hf : fOk p = true
  · obtain ⟨h1, h2⟩ := fOk_bd hf
    have he : elem p a = inB a 0 (p - 1) := by simp [elem, hf]
    have HE := Lib.hid he
    clear he
    go_enter Try.func98, Try.ntmps98
    go_wp2_with fail
    refine (iFieldOk_any _ _).mono ?_
    rintro e w' ⟨rfl, rfl⟩
    go_wp2_with (first | (go_at_call 96; refine (within_any _ _ _ _).mono ?_; rintro e w' ⟨rfl, rfl⟩))
    go_ret
    exact ⟨ret_bool HE.out.symm, rfl⟩
  · have hf' : fOk p = false := by simpa using hf
    have HE := Lib.hid (show elem p a = false by simp [elem, hf'])
    clear hf
    go_enter Try.func98, Try.ntmps98
    go_wp2_with fail
    refine (iFieldOk_any _ _).mono ?_
    rintro e w' ⟨rfl, rfl⟩
    go_wp2
    go_ret
    exact ⟨ret_bool HE.out.symm, rfl⟩
theorem l03Both_any (p a b : Int) (w : World) :
    Calls Try.prog 86 #[.int .i64 p, .int .i64 a, .int .i64 b] w fun e w' => e = .returned (.bool (elem p a && elem p b)) ∧ w = w' := by
  by_cases h1 : elem p a = true
  · go_enter Try.func86, Try.ntmps86
    go_wp2_with fail
    refine (sIsElement_any _ _ _).mono ?_
    rintro e w' ⟨rfl, rfl⟩
    go_wp2_with fail
    refine (sIsElement_any _ _ _).mono ?_
    rintro e w' ⟨rfl, rfl⟩
    go_wp2
    go_ret
    exact ⟨ret_bool (by simp [h1]), rfl⟩
  · have h1' : elem p a = false := by simpa using h1
    clear h1
    go_enter Try.func86, Try.ntmps86
    go_wp2_with fail
    refine (sIsElement_any _ _ _).mono ?_
    rintro e w' ⟨rfl, rfl⟩
    go_wp2
    go_ret
    exact ⟨ret_bool (by simp [h1']), rfl⟩
def inEl (p a : Int) : Bool := inB a 0 (wrap64 (p - 1))
theorem inEl_ok {p : Int} (h : fOk p = true) (a : Int) : inEl p a = inB a 0 (p - 1) := by
  obtain ⟨h1, h2⟩ := fOk_bd h
  unfold inEl
  rw [show wrap64 (p - 1) = p - 1 by unfold wrap64; omega]
theorem allEl_in (p : Int) (l : List Int) : allEl p l = (l.all (inEl p) && fOk p) := by
  cases h : fOk p with
  | false => simp [allEl, h]
  | true =>
    have : inEl p = fun a => inB a 0 (p - 1) := funext fun a => inEl_ok h a
    rw [allEl, this, h]
set_option maxRecDepth 100000 in
theorem areElements_any (p : Int) (A : Option Addr) (n c : Nat) (l : List Int) (w : World) (h : Ints w A n l) (hn : n ≤ 1099511627776) :
    Calls Try.prog 87 #[.int .i64 p, .slice A n c] w fun e w' => e = .returned (.bool (allEl p l)) ∧ w = w' := by
  have hl := Lib.hid h.len
  have HA := Lib.hid (allEl_in p l)
  go_enter Try.func87, Try.ntmps87
  go_wp2
  go_loop [9] (fun i => ∃ k : Nat, k ≤ n ∧ i = .int .i64 k ∧ Hid ((l.take k).all (inEl p) = true)) (fun i => n - (intOf i).toNat)
  case atStart => exact ⟨0, Nat.zero_le _, rfl, rfl⟩
  case round =>
    obtain ⟨k, hk, rfl, H⟩ := hrel
    by_cases hlt : k < n
    · obtain ⟨g, o, rfl, hg, hc⟩ := h.block (by omega)
      have hck := hc k hlt
      clear hc
      cases ht : inEl p (nth l k) with
      | false =>
        have ht2 : inB (nth l k) 0 (wrap64 (p - 1)) = false := ht
        have hf := Lib.hid (all_not (p := inEl p) (l := l) (k := k) (by rw [hl.out]; omega) ht)
        clear ht
        go_wp2_with (first | (go_at_call 96; refine (within_any _ _ _ _).mono ?_; rintro e w' ⟨rfl, rfl⟩))
        go_ret
        exact ⟨ret_bool (by rw [HA.out, hf.out]; rfl), rfl⟩
      | true =>
        have ht2 : inB (nth l k) 0 (wrap64 (p - 1)) = true := ht
        have hs := Lib.hid (all_snoc (p := inEl p) (l := l) (k := k) (by rw [hl.out]; omega) H.out ht)
        clear ht
        go_wp2_with (first | (go_at_call 96; refine (within_any _ _ _ _).mono ?_; rintro e w' ⟨rfl, rfl⟩))
        go_round
        case rel => exact ⟨k + 1, by omega, by go_num, hs.out⟩
        case measure => simp [intOf]; omega
    · have hf := Lib.hid (all_done (p := inEl p) (l := l) (k := k) (by rw [hl.out]; omega) H.out)
      go_wp2_with fail
      refine (iFieldOk_any _ _).mono ?_
      rintro e w' ⟨rfl, rfl⟩
      go_wp2
      go_ret
      exact ⟨ret_bool (by rw [HA.out, hf.out]; simp), rfl⟩
theorem allEl_el (p : Int) (l : List Int) : allEl p l = (l.all (elem p) && fOk p) := by
  cases h : fOk p with
  | false => simp [allEl, h]
  | true =>
    have : elem p = fun a => inB a 0 (p - 1) := funext fun a => by simp [elem, h]
    rw [allEl, this, h]
set_option maxRecDepth 100000 in
theorem l03All_any (p : Int) (A : Option Addr) (n c : Nat) (l : List Int) (w : World) (h : Ints w A n l) (hn : n ≤ 1099511627776) :
    Calls Try.prog 94 #[.int .i64 p, .slice A n c] w fun e w' => e = .returned (.bool (allEl p l)) ∧ w = w' := by
  have hl := Lib.hid h.len
  have HA := Lib.hid (allEl_el p l)
  go_enter Try.func94, Try.ntmps94
  go_wp2
  go_loop [5] (fun i => ∃ k : Nat, k ≤ n ∧ i = .int .i64 k ∧ Hid ((l.take k).all (elem p) = true)) (fun i => n - (intOf i).toNat)
  case atStart => exact ⟨0, Nat.zero_le _, rfl, rfl⟩
  case round =>
    obtain ⟨k, hk, rfl, H⟩ := hrel
    by_cases hlt : k < n
    · obtain ⟨g, o, rfl, hg, hc⟩ := h.block (by omega)
      have hck := hc k hlt
      clear hc
      go_wp2_with fail
      refine (sIsElement_any _ _ _).mono ?_
      rintro e w' ⟨rfl, rfl⟩
      cases ht : elem p (nth l k) with
      | false =>
        have hf := Lib.hid (all_not (p := elem p) (l := l) (k := k) (by rw [hl.out]; omega) ht)
        clear ht
        go_wp2
        go_ret
        exact ⟨ret_bool (by rw [HA.out, hf.out]; rfl), rfl⟩
      | true =>
        have hs := Lib.hid (all_snoc (p := elem p) (l := l) (k := k) (by rw [hl.out]; omega) H.out ht)
        clear ht
        go_wp2
        go_round
        case rel => exact ⟨k + 1, by omega, by go_num, hs.out⟩
        case measure => simp [intOf]; omega
    · have hf := Lib.hid (all_done (p := elem p) (l := l) (k := k) (by rw [hl.out]; omega) H.out)
      go_wp2_with fail
      refine (sFieldOk_any _ _).mono ?_
      rintro e w' ⟨rfl, rfl⟩
      go_wp2
      go_ret
      exact ⟨ret_bool (by rw [HA.out, hf.out]; simp), rfl⟩
end Go.Proofs.Ytllnnbmgdbinnaa

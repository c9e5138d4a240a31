/- The primes up to 101 and what they divide. No program is named here. -/
import Derived.Test.YtllnnbmgdbinnaaBase
import Derived.Test.YtllnnbmgdbinnaaCnt
namespace Go.Proofs.Ytllnnbmgdbinnaa
set_option linter.unusedSimpArgs false
set_option linter.unusedVariables false
/-- The primes up to 101. -/
def primes : List Nat := [2, 3, 5, 7, 11, 13, 17, 19, 23, 29, 31, 37, 41, 43, 47, 53, 59, 61, 67, 71, 73, 79, 83, 89, 97, 101]
def fOk (p : Int) : Bool := inB p 2 101 && primes.contains p.toNat
theorem fOk_no1 : ∀ p < 102, ∀ d < 102, 2 ≤ d → d < p → p % d = 0 → primes.contains p = false := by decide +kernel
theorem fOk_yes1 : ∀ p < 102, 2 ≤ p → primes.contains p = false → ∃ d, d < 11 ∧ 2 ≤ d ∧ d * d ≤ p ∧ p % d = 0 := by
  have h : ∀ p < 102, 2 ≤ p → primes.contains p = false → (List.range 11).any (fun d => decide (2 ≤ d) && decide (d * d ≤ p) && decide (p % d = 0)) = true := by decide +kernel
  intro p hp h2 hc
  have := h p hp h2 hc
  rw [List.any_eq_true] at this
  obtain ⟨d, hd, hx⟩ := this
  simp at hx hd
  exact ⟨d, hd, hx.1.1, hx.1.2, hx.2⟩
theorem sq_bd {d p : Nat} (h : d * d ≤ p) (hp : p < 102) : d < 11 := by
  by_cases hd : d < 11
  · exact hd
  · have := Nat.mul_le_mul (show 11 ≤ d by omega) (show 11 ≤ d by omega); omega
theorem prime_cop : ∀ p ∈ primes, ∀ e < p, 0 < e → Nat.gcd e p = 1 := by decide +kernel
theorem prime_inv : ∀ p ∈ primes, ∀ e < p, 0 < e → ∃ i, i < p ∧ e * i % p = 1 := by
  have h : ∀ p ∈ primes, ∀ e < p, 0 < e → (List.range p).any (fun i => e * i % p = 1) = true := by decide +kernel
  intro p hp e he h0
  have := h p hp e he h0
  rw [List.any_eq_true] at this
  obtain ⟨i, hi, hx⟩ := this
  exact ⟨i, List.mem_range.1 hi, by simpa using hx⟩
theorem mul_mod_zero {p a b : Nat} (hp : p ∈ primes) (ha : a < p) (h0 : 0 < a) (hb : b < p) (h : a * b % p = 0) : b = 0 := by
  have hc : Nat.Coprime p a := (Nat.coprime_comm).1 (prime_cop p hp a ha h0)
  have hd : p ∣ a * b := Nat.dvd_of_mod_eq_zero h
  have := hc.dvd_of_dvd_mul_left hd
  exact Nat.eq_zero_of_dvd_of_lt this hb
end Go.Proofs.Ytllnnbmgdbinnaa

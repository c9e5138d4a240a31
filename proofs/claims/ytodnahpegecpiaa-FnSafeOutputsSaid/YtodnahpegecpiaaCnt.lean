/- Counting the numbers below a bound that have a property. No program is named here. -/
import Derived.Test.YtodnahpegecpiaaBase
namespace Go.Proofs.Ytodnahpegecpiaa
set_option linter.unusedSimpArgs false
set_option linter.unusedVariables false
/-- How many numbers below k have P. -/
def cnt (P : Nat → Bool) : Nat → Nat
  | 0 => 0
  | k + 1 => cnt P k + if P k then 1 else 0
theorem cnt_le (P : Nat → Bool) : ∀ k, cnt P k ≤ k
  | 0 => Nat.le_refl _
  | k + 1 => by have := cnt_le P k; unfold cnt; split <;> omega
theorem cnt_up {P : Nat → Bool} {k : Nat} (h : P k = true) : cnt P (k + 1) = cnt P k + 1 := by simp [cnt, h]
theorem cnt_same {P : Nat → Bool} {k : Nat} (h : P k = false) : cnt P (k + 1) = cnt P k := by simp [cnt, h]
theorem cnt_all {P : Nat → Bool} : ∀ {k : Nat}, (∀ a, a < k → P a = true) → cnt P k = k
  | 0, _ => rfl
  | k + 1, h => by rw [cnt_up (h k (by omega)), cnt_all fun a ha => h a (by omega)]
theorem cnt_none {P : Nat → Bool} : ∀ {k : Nat}, (∀ a, a < k → P a = false) → cnt P k = 0
  | 0, _ => rfl
  | k + 1, h => by rw [cnt_same (h k (by omega)), cnt_none fun a ha => h a (by omega)]
theorem cnt_congr {P Q : Nat → Bool} : ∀ {k : Nat}, (∀ a, a < k → P a = Q a) → cnt P k = cnt Q k
  | 0, _ => rfl
  | k + 1, h => by unfold cnt; rw [h k (by omega), cnt_congr fun a ha => h a (by omega)]
theorem cnt_mono {P Q : Nat → Bool} : ∀ {k : Nat}, (∀ a, a < k → P a = true → Q a = true) → cnt P k ≤ cnt Q k
  | 0, _ => Nat.le_refl _
  | k + 1, h => by
    have ih := cnt_mono (k := k) fun a ha => h a (by omega)
    have hk := h k (by omega)
    unfold cnt
    cases hp : P k <;> cases hq : Q k <;> simp_all <;> omega
theorem cnt_one_le {P : Nat → Bool} {a : Nat} : ∀ {k : Nat}, a < k → P a = true → 1 ≤ cnt P k
  | k + 1, hk, h => by
    by_cases e : a = k
    · subst e; rw [cnt_up h]; omega
    · have := cnt_one_le (k := k) (by omega) h; unfold cnt; omega
theorem cnt_le_one {P : Nat → Bool} : ∀ {k : Nat}, (∀ a b, a < k → b < k → P a = true → P b = true → a = b) → cnt P k ≤ 1
  | 0, _ => by simp [cnt]
  | k + 1, h => by
    cases hp : P k with
    | false => rw [cnt_same hp]; exact cnt_le_one fun a b ha hb => h a b (by omega) (by omega)
    | true =>
      rw [cnt_up hp, cnt_none]
      · omega
      · intro a ha
        cases hq : P a with
        | false => rfl
        | true => have := h a k (by omega) (by omega) hq hp; omega
theorem cnt_unique {P : Nat → Bool} {k a0 : Nat} (h0 : a0 < k) (h1 : P a0 = true) (h : ∀ a, a < k → P a = true → a = a0) : cnt P k = 1 := by
  have h2 := cnt_one_le h0 h1
  have h3 : cnt P k ≤ 1 := cnt_le_one fun a b ha hb pa pb => (h a ha pa).trans (h b hb pb).symm
  omega
end Go.Proofs.Ytodnahpegecpiaa

/- What the check answers on openings of one new value with one key. No program is named here. -/
import Derived.Test.YtllnnbmgdbinnaaMacMath
namespace Go.Proofs.Ytllnnbmgdbinnaa
set_option linter.unusedSimpArgs false
set_option linter.unusedVariables false
theorem fsum_one {p a : Int} (ha : elem p a = true) : allEl p [a] = true ∧ fsum p [a] = a := by
  obtain ⟨hp, h0, h1⟩ := elem_iff.1 ha
  have hall : allEl p [a] = true := allEl_iff.2 ⟨hp, fun j hj => by
    have : j = 0 := by simpa using hj
    subst this; exact ha⟩
  refine ⟨hall, ?_⟩
  rw [fsum_eq hall]
  show (0 + nth [a] 0) % p = a
  rw [show nth [a] 0 = a from rfl, Int.zero_add, Int.emod_eq_of_lt h0 h1]
theorem keys_one {p a : Int} (ha : elem p a = true) : keysOk p [a] = true := keysOk_iff.2 ⟨by simp, by simp, (fsum_one ha).1⟩
theorem forged_n {p a x s : Int} (ha : elem p a = true) (hx : elem p x = true) (hs : 0 ≤ s ∧ s ≤ 4294967295) : nOk p [a] x s 0 = true :=
  nOk_iff.2 ⟨keys_one ha, hx, t9_iff.2 ⟨hs, by omega, by omega⟩⟩
theorem macOk_val {p x y : Int} {al sh ma : List Int} (h : IsV p al sh ma x) (hy : elem p y = true) : macOk p al y ma = (x * fsum p al % p == y * fsum p al % p) := by
  obtain ⟨k, _, l2, _, a2⟩ := formOk_iff.1 h.1
  have hk := (keysOk_iff.1 k).2.2
  have hl : decide (ma.length = al.length) = true := by simp [l2]
  rw [macOk, k, hy, hl, a2, h.2.2, fmul_eq hy (elem_fsum hk)]
  rfl
theorem forged_1 {p a x s : Int} (ha : elem p a = true) (hx : elem p x = true) (hs : 0 ≤ s ∧ s ≤ 4294967295) : macOk p [a] x (nM p [a] x s 0) = true := by
  rw [macOk_val (isV_nOk (forged_n ha hx hs)) hx]; simp
theorem forged_2 {p a x y s : Int} (ha : elem p a = true) (hx : elem p x = true) (hy : elem p y = true) (hne : x ≠ y) (hs : 0 ≤ s ∧ s ≤ 4294967295) : macOk p [a] y (nM p [a] x s 0) = decide (a = 0) := by
  rw [macOk_val (isV_nOk (forged_n ha hx hs)) hy, (fsum_one ha).2]
  obtain ⟨hp, a0, a1⟩ := elem_iff.1 ha
  obtain ⟨_, x0, x1⟩ := elem_iff.1 hx
  obtain ⟨_, y0, y1⟩ := elem_iff.1 hy
  by_cases h : a = 0
  · subst h; simp
  · rw [decide_eq_false h, beq_eq_false_iff_ne]
    intro e
    exact hne (mul_cancel hp (by omega) a1 x0 x1 y0 y1 e)
theorem shift_ne {p x e : Int} (hx : elem p x = true) (h0 : 1 ≤ e) (h1 : e < p) : x ≠ (x + e) % p := by
  obtain ⟨_, x0, x1⟩ := elem_iff.1 hx
  by_cases h : x + e < p
  · rw [Int.emod_eq_of_lt (by omega) h]; omega
  · have : (x + e) % p = (x + e - p) % p := by rw [show x + e = x + e - p + p by omega, Int.add_emod_right]; congr 1; omega
    rw [this, Int.emod_eq_of_lt (by omega) (by omega)]; omega
end Go.Proofs.Ytllnnbmgdbinnaa

/- Multiplication of rows (bytes as polynomials): the plain function and its laws. No program is named here. -/
import Derived.Test.YtakmgghjpompoaaBase
namespace Go.Proofs.Ytakmgghjpompoaa
set_option linter.unusedSimpArgs false
set_option linter.unusedVariables false

/-- A row doubled. -/
def xt (a : Nat) : Nat := if 255 < a * 2 then (a * 2) ^^^ 283 else a * 2
/-- k rounds of the multiplication, from the sum z on. -/
def mulAcc : Nat → Nat → Nat → Nat → Nat
  | 0, _, _, z => z
  | k + 1, a, b, z => mulAcc k (xt a) (b / 2) (if b % 2 = 1 then z ^^^ a else z)
def mulN (a b : Nat) : Nat := mulAcc 8 a b 0
theorem mulAcc_zero : ∀ (k a z : Nat), mulAcc k a 0 z = z
  | 0, _, _ => rfl
  | k + 1, a, z => by
    rw [mulAcc]
    simp only [Nat.zero_div, Nat.zero_mod]
    exact mulAcc_zero k _ _
theorem xor_lt256 {a b : Nat} (ha : a < 256) (hb : b < 256) : a ^^^ b < 256 := Nat.xor_lt_two_pow (n := 8) ha hb
theorem xt_lt {a : Nat} (h : a < 256) : xt a < 256 := by
  unfold xt
  split
  · have h1 : ∀ x < 512, 255 < x → x ^^^ 283 < 256 := by decide +kernel
    exact h1 _ (by omega) (by assumption)
  · omega
theorem mulAcc_lt : ∀ (k a b z : Nat), a < 256 → z < 256 → mulAcc k a b z < 256
  | 0, _, _, _, _, hz => hz
  | k + 1, a, b, z, ha, hz => by
    rw [mulAcc]
    refine mulAcc_lt k _ _ _ (xt_lt ha) ?_
    split
    · exact xor_lt256 hz ha
    · exact hz
theorem mulN_lt {a b : Nat} (ha : a < 256) : mulN a b < 256 := mulAcc_lt 8 a b 0 ha (by omega)
end Go.Proofs.Ytakmgghjpompoaa

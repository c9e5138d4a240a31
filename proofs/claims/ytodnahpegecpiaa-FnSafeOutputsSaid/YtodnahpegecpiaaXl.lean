/- The exclusive or of numbers, and the half gates' law. No program is named here. -/
import Derived.Test.YtodnahpegecpiaaBase
namespace Go.Proofs.Ytodnahpegecpiaa
set_option linter.unusedSimpArgs false
set_option linter.unusedVariables false
/-- The exclusive or of two numbers that are not negative. -/
def xl (a b : Int) : Int := ((a.toNat ^^^ b.toNat : Nat) : Int)
theorem xl_nn (a b : Int) : 0 ≤ xl a b := Int.natCast_nonneg _
theorem xl_nat (a b : Nat) : xl a b = ((a ^^^ b : Nat) : Int) := rfl
theorem xl_comm (a b : Int) : xl a b = xl b a := by simp only [xl, Nat.xor_comm]
theorem xl_assoc (a b c : Int) : xl (xl a b) c = xl a (xl b c) := by simp only [xl, Int.toNat_natCast, Nat.xor_assoc]
theorem xl_left (a b c : Int) : xl a (xl b c) = xl b (xl a c) := by rw [← xl_assoc, xl_comm a b, xl_assoc]
theorem xl_self (a : Int) : xl a a = 0 := by simp [xl]
theorem xl_zero {a : Int} (h : 0 ≤ a) : xl a 0 = a := by simp [xl, Int.toNat_of_nonneg h]
theorem xl_zero_left {a : Int} (h : 0 ≤ a) : xl 0 a = a := by rw [xl_comm, xl_zero h]
theorem xl_cancel {a b : Int} (h : 0 ≤ b) : xl a (xl a b) = b := by rw [← xl_assoc, xl_self, xl_zero_left h]
theorem nxor_mod2 (a b : Nat) : (a ^^^ b) % 2 = (a % 2 + b % 2) % 2 := by
  have h := Nat.xor_mod_two_pow (a := a) (b := b) (n := 1)
  simp only [Nat.pow_one] at h
  rw [h]
  have ha : a % 2 = 0 ∨ a % 2 = 1 := by omega
  have hb : b % 2 = 0 ∨ b % 2 = 1 := by omega
  rcases ha with ha | ha <;> rcases hb with hb | hb <;> rw [ha, hb] <;> rfl
theorem xl_mod2 {a b : Int} (ha : 0 ≤ a) (hb : 0 ≤ b) : xl a b % 2 = (a % 2 + b % 2) % 2 := by
  have := nxor_mod2 a.toNat b.toNat
  unfold xl
  omega
theorem nxor_left (a b c : Nat) : a ^^^ (b ^^^ c) = b ^^^ (a ^^^ c) := by rw [← Nat.xor_assoc, Nat.xor_comm a b, Nat.xor_assoc]
theorem nxor_cancel (a b : Nat) : a ^^^ (a ^^^ b) = b := by rw [← Nat.xor_assoc, Nat.xor_self, Nat.zero_xor]
def ifB (c : Int) (x : Int) : Int := if c % 2 = 1 then x else 0
section
variable (h : Int → Int → Int) (n : Int)
def gT (a b d : Int) : Int := xl (xl (h a (2 * n)) (h (xl a d) (2 * n))) (ifB b d)
def gE (a b d : Int) : Int := xl (xl (h b (2 * n + 1)) (h (xl b d) (2 * n + 1))) a
def andL (a b g e : Int) : Int := xl (xl (xl (h a (2 * n)) (h b (2 * n + 1))) (ifB a g)) (ifB b (xl e a))
theorem andL_right (hh : ∀ a n, 0 ≤ h a n) {a b d va vb : Int} (ha : 0 ≤ a) (hb : 0 ≤ b) (hd : 0 ≤ d) (hodd : d % 2 = 1) (hva : va = 0 ∨ va = 1) (hvb : vb = 0 ∨ vb = 1) :
    andL h n (xl a (va * d)) (xl b (vb * d)) (gT h n a b d) (gE h n a b d) = xl (andL h n a b (gT h n a b d) (gE h n a b d)) (va * vb * d) := by
  have ma := xl_mod2 ha hd
  have mb := xl_mod2 hb hd
  have pa : a % 2 = 0 ∨ a % 2 = 1 := by omega
  have pb : b % 2 = 0 ∨ b % 2 = 1 := by omega
  have h1 := hh a (2 * n)
  have h2 := hh (xl a d) (2 * n)
  have h3 := hh b (2 * n + 1)
  have h4 := hh (xl b d) (2 * n + 1)
  rcases hva with rfl | rfl <;> rcases hvb with rfl | rfl <;> rcases pa with pa | pa <;> rcases pb with pb | pb <;>
    simp [andL, gT, gE, ifB, ma, mb, pa, pb, hodd, xl_zero, ha, hb, hd, xl_assoc, xl_nn, h1, h2, h3, h4, xl_cancel, xl_self] <;>
    generalize h a (2 * n) = p at * <;> generalize h (xl a d) (2 * n) = p' at * <;> generalize h b (2 * n + 1) = q at * <;> generalize h (xl b d) (2 * n + 1) = q' at * <;>
    obtain ⟨a, rfl⟩ := Int.eq_ofNat_of_zero_le ha <;> obtain ⟨b, rfl⟩ := Int.eq_ofNat_of_zero_le hb <;> obtain ⟨d, rfl⟩ := Int.eq_ofNat_of_zero_le hd <;>
    obtain ⟨p, rfl⟩ := Int.eq_ofNat_of_zero_le h1 <;> obtain ⟨p', rfl⟩ := Int.eq_ofNat_of_zero_le h2 <;> obtain ⟨q, rfl⟩ := Int.eq_ofNat_of_zero_le h3 <;> obtain ⟨q', rfl⟩ := Int.eq_ofNat_of_zero_le h4 <;>
    (try simp only [xl_nat, Int.natCast_inj]) <;>
    (try simp [Nat.xor_comm, nxor_left, Nat.xor_assoc, nxor_cancel])
end
end Go.Proofs.Ytodnahpegecpiaa

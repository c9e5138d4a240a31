/- The algebra of rows: multiplication is commutative, associative, distributes over the exclusive or, and each row but 0 has an inverse. -/
import Derived.Test.YtakmgghjpompoaaMulMath
namespace Go.Proofs.Ytakmgghjpompoaa
set_option linter.unusedSimpArgs false
set_option linter.unusedVariables false
theorem top_bit : ∀ k < 8, ∀ x < 256, 2 ^ k ≤ x → x < 2 ^ (k + 1) → x = 2 ^ k ^^^ (x - 2 ^ k) := by decide +kernel
/-- Two functions that carry the exclusive or over agree on rows if they agree at the eight powers of two. -/
theorem lin_ext {f g : Nat → Nat} (hf : ∀ x < 256, ∀ y < 256, f (x ^^^ y) = f x ^^^ f y) (hg : ∀ x < 256, ∀ y < 256, g (x ^^^ y) = g x ^^^ g y) (h : ∀ k < 8, f (2 ^ k) = g (2 ^ k)) : ∀ x < 256, f x = g x := by
  have f0 : f 0 = 0 := by have := hf 0 (by omega) 0 (by omega); simpa using this
  have g0 : g 0 = 0 := by have := hg 0 (by omega) 0 (by omega); simpa using this
  have key : ∀ k, k ≤ 8 → ∀ x, x < 2 ^ k → f x = g x := by
    intro k
    induction k with
    | zero => intro _ x hx; have : x = 0 := by simpa using hx
              rw [this, f0, g0]
    | succ k ih =>
      intro hk x hx
      by_cases hlt : x < 2 ^ k
      · exact ih (by omega) x hlt
      · have h8 : 2 ^ (k + 1) ≤ 256 := by
          have := Nat.pow_le_pow_right (n := 2) (by omega) hk
          simpa using this
        have e := top_bit k (by omega) x (by omega) (by omega) hx
        have hp : 2 ^ k < 256 := by rw [Nat.pow_succ] at h8; omega
        have hs : x - 2 ^ k < 2 ^ k := by rw [Nat.pow_succ] at hx; omega
        rw [e, hf _ hp _ (by omega), hg _ hp _ (by omega), h k (by omega), ih (by omega) _ hs]
  exact key 8 (by omega)
theorem xor_mod2 (a b : Nat) : (a ^^^ b) % 2 = (a % 2 + b % 2) % 2 := by
  have h := Nat.xor_mod_two_pow (a := a) (b := b) (n := 1)
  simp only [Nat.pow_one] at h
  rw [h]
  have ha : a % 2 = 0 ∨ a % 2 = 1 := by omega
  have hb : b % 2 = 0 ∨ b % 2 = 1 := by omega
  rcases ha with ha | ha <;> rcases hb with hb | hb <;> rw [ha, hb] <;> rfl
theorem xor_four (a b c d : Nat) : (a ^^^ b) ^^^ (c ^^^ d) = (a ^^^ c) ^^^ (b ^^^ d) := by
  rw [Nat.xor_assoc, Nat.xor_assoc, ← Nat.xor_assoc b c d, Nat.xor_comm b c, Nat.xor_assoc c b d]
theorem mulAcc_linB : ∀ (k a b c z y : Nat), mulAcc k a (b ^^^ c) (z ^^^ y) = mulAcc k a b z ^^^ mulAcc k a c y
  | 0, _, _, _, _, _ => rfl
  | k + 1, a, b, c, z, y => by
    rw [mulAcc, mulAcc, mulAcc, ← mulAcc_linB k]
    have e1 : (b ^^^ c) / 2 = b / 2 ^^^ c / 2 := Nat.xor_div_two
    have e2 : (if (b ^^^ c) % 2 = 1 then z ^^^ y ^^^ a else z ^^^ y) = (if b % 2 = 1 then z ^^^ a else z) ^^^ (if c % 2 = 1 then y ^^^ a else y) := by
      have hm := xor_mod2 b c
      by_cases hb : b % 2 = 1 <;> by_cases hc : c % 2 = 1
      · rw [if_neg (by omega), if_pos hb, if_pos hc, xor_four, Nat.xor_self, Nat.xor_zero]
      · rw [if_pos (by omega), if_pos hb, if_neg hc, Nat.xor_assoc, Nat.xor_comm y a, ← Nat.xor_assoc]
      · rw [if_pos (by omega), if_neg hb, if_pos hc, Nat.xor_assoc]
      · rw [if_neg (by omega), if_neg hb, if_neg hc]
    rw [e1, e2]
theorem mulN_linB (a b c : Nat) : mulN a (b ^^^ c) = mulN a b ^^^ mulN a c := by
  have := mulAcc_linB 8 a b c 0 0
  simpa [mulN] using this
theorem xt_lin : ∀ a < 256, ∀ b < 256, xt (a ^^^ b) = xt a ^^^ xt b := by
  intro a ha b hb
  have hd : ∀ x < 256, xt x = (x * 2) ^^^ (x / 128 * 283) := by decide +kernel
  have h1 : (a ^^^ b) * 2 = a * 2 ^^^ b * 2 := by
    have e := fun x : Nat => (Nat.shiftLeft_eq x 1).symm
    simp only [Nat.pow_one] at e
    rw [e, e, e, Nat.shiftLeft_xor_distrib]
  have h2 : ∀ x < 2, ∀ y < 2, (x ^^^ y) * 283 = (x * 283) ^^^ (y * 283) := by decide +kernel
  have h3 : (a ^^^ b) / 128 = a / 128 ^^^ b / 128 := Nat.xor_div_two_pow (n := 7)
  rw [hd a ha, hd b hb, hd _ (xor_lt256 ha hb), h1, h3, h2 _ (by omega) _ (by omega), xor_four]
theorem mulAcc_linA : ∀ (k a b c z y : Nat), a < 256 → b < 256 → mulAcc k (a ^^^ b) c (z ^^^ y) = mulAcc k a c z ^^^ mulAcc k b c y
  | 0, _, _, _, _, _, _, _ => rfl
  | k + 1, a, b, c, z, y, ha, hb => by
    rw [mulAcc, mulAcc, mulAcc, ← mulAcc_linA k _ _ _ _ _ (xt_lt ha) (xt_lt hb), xt_lin a ha b hb]
    congr 1
    by_cases hc : c % 2 = 1
    · rw [if_pos hc, if_pos hc, if_pos hc, xor_four]
    · rw [if_neg hc, if_neg hc, if_neg hc]
theorem mulN_linA {a b : Nat} (ha : a < 256) (hb : b < 256) (c : Nat) : mulN (a ^^^ b) c = mulN a c ^^^ mulN b c := by
  have := mulAcc_linA 8 a b c 0 0 ha hb
  simpa [mulN] using this
theorem mulN_comm {a b : Nat} (ha : a < 256) (hb : b < 256) : mulN a b = mulN b a := by
  have h64 : ∀ i < 8, ∀ j < 8, mulN (2 ^ i) (2 ^ j) = mulN (2 ^ j) (2 ^ i) := by decide +kernel
  have p8 : ∀ i < 8, 2 ^ i < 256 := by decide +kernel
  have h1 : ∀ i < 8, ∀ b < 256, mulN (2 ^ i) b = mulN b (2 ^ i) := fun i hi =>
    lin_ext (f := fun b => mulN (2 ^ i) b) (g := fun b => mulN b (2 ^ i)) (fun x _ y _ => mulN_linB _ x y) (fun x hx y hy => mulN_linA hx hy _) (fun j hj => h64 i hi j hj)
  exact lin_ext (f := fun a => mulN a b) (g := fun a => mulN b a) (fun x hx y hy => mulN_linA hx hy _) (fun x _ y _ => mulN_linB _ x y) (fun i hi => h1 i hi b hb) a ha
theorem mulN_assoc {a b c : Nat} (ha : a < 256) (hb : b < 256) (hc : c < 256) : mulN a (mulN b c) = mulN (mulN a b) c := by
  have h512 : ∀ i < 8, ∀ j < 8, ∀ k < 8, mulN (2 ^ i) (mulN (2 ^ j) (2 ^ k)) = mulN (mulN (2 ^ i) (2 ^ j)) (2 ^ k) := by decide +kernel
  have p8 : ∀ i < 8, 2 ^ i < 256 := by decide +kernel
  have h1 : ∀ i < 8, ∀ j < 8, ∀ c < 256, mulN (2 ^ i) (mulN (2 ^ j) c) = mulN (mulN (2 ^ i) (2 ^ j)) c := fun i hi j hj =>
    lin_ext (f := fun c => mulN (2 ^ i) (mulN (2 ^ j) c)) (g := fun c => mulN (mulN (2 ^ i) (2 ^ j)) c) (fun x _ y _ => by rw [mulN_linB, mulN_linB]) (fun x _ y _ => mulN_linB _ x y) (fun k hk => h512 i hi j hj k hk)
  have h2 : ∀ i < 8, ∀ b < 256, mulN (2 ^ i) (mulN b c) = mulN (mulN (2 ^ i) b) c := fun i hi =>
    lin_ext (f := fun b => mulN (2 ^ i) (mulN b c)) (g := fun b => mulN (mulN (2 ^ i) b) c) (fun x hx y hy => by rw [mulN_linA hx hy, mulN_linB])
      (fun x hx y hy => by rw [mulN_linB, mulN_linA (mulN_lt (p8 i hi)) (mulN_lt (p8 i hi))]) (fun j hj => h1 i hi j hj c hc)
  exact lin_ext (f := fun a => mulN a (mulN b c)) (g := fun a => mulN (mulN a b) c) (fun x hx y hy => mulN_linA hx hy _)
    (fun x hx y hy => by rw [mulN_linA hx hy, mulN_linA (mulN_lt hx) (mulN_lt hy)]) (fun i hi => h2 i hi b hb) a ha
theorem mulN_one : ∀ a < 256, mulN a 1 = a := by decide +kernel
theorem mulN_two : mulN 2 128 = 27 := by decide +kernel
end Go.Proofs.Ytakmgghjpompoaa

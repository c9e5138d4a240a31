/- Shares of elements: sums, multiples, constants, keys; how many keys pass a forgery. No program is named here. -/
import Derived.Test.YtllnnbmgdbinnaaFldMath
import Derived.Test.YtllnnbmgdbinnaaGen
namespace Go.Proofs.Ytllnnbmgdbinnaa
set_option linter.unusedSimpArgs false
set_option linter.unusedVariables false
def elem (p a : Int) : Bool := fOk p && inB a 0 (p - 1)
def allEl (p : Int) (l : List Int) : Bool := l.all (fun a => inB a 0 (p - 1)) && fOk p
def fadd (p a b : Int) : Int := if elem p a && elem p b then (a + b) % p else -1
def fsub (p a b : Int) : Int := if elem p a && elem p b then (a - b) % p else -1
def fmul (p a b : Int) : Int := if elem p a && elem p b then a * b % p else -1
/-- The sum of the first k numbers. -/
def sumG (f : Nat → Int) : Nat → Int
  | 0 => 0
  | k + 1 => sumG f k + f k
def fsum (p : Int) (l : List Int) : Int := if allEl p l then sumG (nth l) l.length % p else -1
theorem elem_iff {p a : Int} : elem p a = true ↔ fOk p = true ∧ 0 ≤ a ∧ a < p := by
  simp only [elem, Bool.and_eq_true, inB_iff]; constructor <;> (rintro ⟨h1, h2, h3⟩; exact ⟨h1, h2, by omega⟩)
theorem fOk_bd {p : Int} (h : fOk p = true) : 2 ≤ p ∧ p ≤ 101 := by
  simp only [fOk, Bool.and_eq_true, inB_iff] at h; exact h.1
theorem elem_mod {p : Int} (h : fOk p = true) (x : Int) : elem p (x % p) = true := by
  have := fOk_bd h
  exact elem_iff.2 ⟨h, Int.emod_nonneg _ (by omega), Int.emod_lt_of_pos _ (by omega)⟩
theorem fadd_eq {p a b : Int} (ha : elem p a = true) (hb : elem p b = true) : fadd p a b = (a + b) % p := by simp [fadd, ha, hb]
theorem fsub_eq {p a b : Int} (ha : elem p a = true) (hb : elem p b = true) : fsub p a b = (a - b) % p := by simp [fsub, ha, hb]
theorem fmul_eq {p a b : Int} (ha : elem p a = true) (hb : elem p b = true) : fmul p a b = a * b % p := by simp [fmul, ha, hb]
theorem allEl_iff {p : Int} {l : List Int} : allEl p l = true ↔ fOk p = true ∧ ∀ j, j < l.length → elem p (nth l j) = true := by
  constructor
  · intro h
    simp only [allEl, Bool.and_eq_true, List.all_eq_true] at h
    refine ⟨h.2, fun j hj => ?_⟩
    have := h.1 (nth l j) (by rw [nth_lt hj]; exact List.getElem_mem _)
    simp [elem, h.2, this]
  · rintro ⟨h1, h2⟩
    simp only [allEl, Bool.and_eq_true, List.all_eq_true]
    refine ⟨fun x hx => ?_, h1⟩
    obtain ⟨j, hj, rfl⟩ := List.getElem_of_mem hx
    have := h2 j hj
    rw [nth_lt hj] at this
    simp [elem, h1] at this
    exact this
theorem fsum_eq {p : Int} {l : List Int} (h : allEl p l = true) : fsum p l = sumG (nth l) l.length % p := by simp [fsum, h]
theorem elem_fsum {p : Int} {l : List Int} (h : allEl p l = true) : elem p (fsum p l) = true := by rw [fsum_eq h]; exact elem_mod (allEl_iff.1 h).1 _
theorem sum_step (p s x : Int) : (s % p + x) % p = (s + x) % p := by simp [Int.add_emod]
theorem sumG_congr {f g : Nat → Int} : ∀ {k : Nat}, (∀ j, j < k → f j = g j) → sumG f k = sumG g k
  | 0, _ => rfl
  | k + 1, h => by rw [sumG, sumG, sumG_congr fun j hj => h j (by omega), h k (by omega)]
theorem sumG_add (p : Int) (f g : Nat → Int) : ∀ k, sumG (fun i => (f i + g i) % p) k % p = (sumG f k + sumG g k) % p
  | 0 => rfl
  | k + 1 => by
    have ih := sumG_add p f g k
    simp only [sumG]
    rw [Int.add_emod, ih, Int.emod_emod, ← Int.add_emod]
    congr 1; omega
theorem sumG_mul (p c : Int) (f : Nat → Int) : ∀ k, sumG (fun i => f i * c % p) k % p = sumG f k * c % p
  | 0 => by simp [sumG]
  | k + 1 => by
    have ih := sumG_mul p c f k
    simp only [sumG]
    rw [Int.add_emod, ih, Int.emod_emod, ← Int.add_emod, Int.add_mul]
/-- Sums, multiples and constants of shares. -/
def addL (p : Int) (a b : List Int) : List Int := if decide (a.length = b.length) && allEl p a && allEl p b then genL (fun i => fadd p (nth a i) (nth b i)) a.length else []
def scaleL (p : Int) (a : List Int) (k : Int) : List Int := if elem p k && allEl p a then genL (fun i => fmul p (nth a i) k) a.length else []
def constL (p : Int) (a : List Int) (k : Int) : List Int := if decide (a.length ≠ 0) && elem p k && allEl p a then a.set 0 (fadd p (nth a 0) k) else []
theorem nth_set {l : List Int} {x : Int} {i j : Nat} (hj : j < l.length) : nth (l.set i x) j = if i = j then x else nth l j := by
  rw [nth_lt (by simpa using hj), nth_lt hj, List.getElem_set]
theorem addL_yes {p : Int} {a b : List Int} (h : a.length = b.length) (ha : allEl p a = true) (hb : allEl p b = true) : addL p a b = genL (fun i => fadd p (nth a i) (nth b i)) a.length := by simp [addL, h, ha, hb]
theorem scaleL_yes {p : Int} {a : List Int} {k : Int} (ha : allEl p a = true) (hk : elem p k = true) : scaleL p a k = genL (fun i => fmul p (nth a i) k) a.length := by simp [scaleL, ha, hk]
theorem constL_yes {p : Int} {a : List Int} {k : Int} (h0 : a.length ≠ 0) (ha : allEl p a = true) (hk : elem p k = true) : constL p a k = a.set 0 (fadd p (nth a 0) k) := by simp [constL, h0, ha, hk]
theorem addL_el {p : Int} {a b : List Int} (h : a.length = b.length) (ha : allEl p a = true) (hb : allEl p b = true) : (addL p a b).length = a.length ∧ allEl p (addL p a b) = true ∧ fsum p (addL p a b) = (fsum p a + fsum p b) % p := by
  have hA := allEl_iff.1 ha
  have hB := allEl_iff.1 hb
  rw [addL_yes h ha hb]
  have hl := genL_len (fun i => fadd p (nth a i) (nth b i)) a.length
  have hn : ∀ j, j < a.length → nth (genL (fun i => fadd p (nth a i) (nth b i)) a.length) j = (nth a j + nth b j) % p := fun j hj => by
    rw [genL_nth hj, fadd_eq (hA.2 j hj) (hB.2 j (by omega))]
  have hall : allEl p (genL (fun i => fadd p (nth a i) (nth b i)) a.length) = true := allEl_iff.2 ⟨hA.1, fun j hj => by rw [hl] at hj; rw [hn j hj]; exact elem_mod hA.1 _⟩
  refine ⟨hl, hall, ?_⟩
  rw [fsum_eq hall, hl, sumG_congr hn, sumG_add, fsum_eq ha, fsum_eq hb, ← Int.add_emod, h]
theorem scaleL_el {p : Int} {a : List Int} {k : Int} (ha : allEl p a = true) (hk : elem p k = true) : (scaleL p a k).length = a.length ∧ allEl p (scaleL p a k) = true ∧ fsum p (scaleL p a k) = fsum p a * k % p := by
  have hA := allEl_iff.1 ha
  rw [scaleL_yes ha hk]
  have hl := genL_len (fun i => fmul p (nth a i) k) a.length
  have hn : ∀ j, j < a.length → nth (genL (fun i => fmul p (nth a i) k) a.length) j = nth a j * k % p := fun j hj => by
    rw [genL_nth hj, fmul_eq (hA.2 j hj) hk]
  have hall : allEl p (genL (fun i => fmul p (nth a i) k) a.length) = true := allEl_iff.2 ⟨hA.1, fun j hj => by rw [hl] at hj; rw [hn j hj]; exact elem_mod hA.1 _⟩
  refine ⟨hl, hall, ?_⟩
  rw [fsum_eq hall, hl, sumG_congr hn, sumG_mul, fsum_eq ha]; simp [Int.mul_emod]
theorem sumG_set {l : List Int} {x : Int} : ∀ {k : Nat}, 0 < k → k ≤ l.length → sumG (nth (l.set 0 x)) k = sumG (nth l) k - nth l 0 + x
  | 1, _, hk => by simp only [sumG]; rw [nth_set (by omega), if_pos rfl]; omega
  | k + 2, _, hk => by
    have ih := sumG_set (l := l) (x := x) (k := k + 1) (by omega) (by omega)
    rw [sumG, ih, nth_set (by omega), if_neg (by omega)]
    show _ = sumG (nth l) (k + 1) + nth l (k + 1) - nth l 0 + x
    omega
theorem constL_el {p : Int} {a : List Int} {k : Int} (h0 : a.length ≠ 0) (ha : allEl p a = true) (hk : elem p k = true) : (constL p a k).length = a.length ∧ allEl p (constL p a k) = true ∧ fsum p (constL p a k) = (fsum p a + k) % p := by
  have hA := allEl_iff.1 ha
  rw [constL_yes h0 ha hk]
  have hl : (a.set 0 (fadd p (nth a 0) k)).length = a.length := by simp
  have e0 := hA.2 0 (by omega)
  have hall : allEl p (a.set 0 (fadd p (nth a 0) k)) = true := allEl_iff.2 ⟨hA.1, fun j hj => by
    rw [hl] at hj
    rw [nth_set hj]
    split
    · rw [fadd_eq e0 hk]; exact elem_mod hA.1 _
    · exact hA.2 j hj⟩
  refine ⟨hl, hall, ?_⟩
  rw [fsum_eq hall, hl, sumG_set (by omega) (Nat.le_refl _), fsum_eq ha, fadd_eq e0 hk, Int.add_emod, Int.emod_emod, ← Int.add_emod, Int.emod_add_emod]
  congr 1; omega
theorem nth_app_lt {l : List Int} {x : Int} {j : Nat} (h : j < l.length) : nth (l ++ [x]) j = nth l j := by
  rw [nth_lt (by simp; omega), nth_lt h, List.getElem_append_left h]
theorem nth_app_last {l : List Int} {x : Int} : nth (l ++ [x]) l.length = x := by rw [nth_lt (by simp)]; simp
/-- Shares of x: drawn numbers, and the one that is missing. -/
def shareL (p x : Int) (l : List Int) : List Int := l ++ [fsub p x (fsum p l)]
theorem shareL_el {p x : Int} {l : List Int} (hl : allEl p l = true) (hx : elem p x = true) : (shareL p x l).length = l.length + 1 ∧ allEl p (shareL p x l) = true ∧ fsum p (shareL p x l) = x := by
  have hA := allEl_iff.1 hl
  have hlen : (shareL p x l).length = l.length + 1 := by simp [shareL]
  have hs := elem_fsum hl
  have hX := elem_iff.1 hx
  have hall : allEl p (shareL p x l) = true := allEl_iff.2 ⟨hA.1, fun j hj => by
    rw [hlen] at hj
    unfold shareL
    by_cases e : j < l.length
    · rw [nth_app_lt e]; exact hA.2 j e
    · obtain rfl : j = l.length := by omega
      rw [nth_app_last, fsub_eq hx hs]; exact elem_mod hA.1 _⟩
  refine ⟨hlen, hall, ?_⟩
  rw [fsum_eq hall, hlen, sumG]
  unfold shareL
  rw [nth_app_last, sumG_congr (g := nth l) fun j hj => nth_app_lt hj, fsub_eq hx hs, fsum_eq hl, Int.add_emod, Int.emod_emod, ← Int.add_emod, Int.add_emod, Int.sub_emod, Int.emod_emod, ← Int.sub_emod, ← Int.add_emod]
  rw [show sumG (nth l) l.length + (x - sumG (nth l) l.length) = x by omega]
  exact Int.emod_eq_of_lt hX.2.1 hX.2.2
/-- Keys, and the form of what they authenticate. -/
def keysOk (p : Int) (al : List Int) : Bool := inB al.length 1 5 && allEl p al
def formOk (p : Int) (al sh ma : List Int) : Bool := keysOk p al && decide (sh.length = al.length) && decide (ma.length = al.length) && allEl p sh && allEl p ma
def authOk (p : Int) (al sh ma : List Int) : Bool := formOk p al sh ma && (fsum p ma == fmul p (fsum p sh) (fsum p al))
theorem keysOk_iff {p : Int} {al : List Int} : keysOk p al = true ↔ 1 ≤ al.length ∧ al.length ≤ 5 ∧ allEl p al = true := by
  simp only [keysOk, Bool.and_eq_true, inB_iff]
  constructor
  · rintro ⟨⟨h1, h2⟩, h3⟩; exact ⟨by omega, by omega, h3⟩
  · rintro ⟨h1, h2, h3⟩; exact ⟨⟨by omega, by omega⟩, h3⟩
theorem formOk_iff {p : Int} {al sh ma : List Int} : formOk p al sh ma = true ↔ keysOk p al = true ∧ sh.length = al.length ∧ ma.length = al.length ∧ allEl p sh = true ∧ allEl p ma = true := by
  simp only [formOk, Bool.and_eq_true, decide_eq_true_eq, and_assoc]
theorem mul_mod_zeroI {p a b : Int} (hp : fOk p = true) (ha : 0 ≤ a) (hap : a < p) (h0 : a ≠ 0) (hb : 0 ≤ b) (hbp : b < p) (h : a * b % p = 0) : b = 0 := by
  have hm : p.toNat ∈ primes := by simp only [fOk, Bool.and_eq_true, List.contains_iff_mem] at hp; exact hp.2
  obtain ⟨P, rfl⟩ := Int.eq_ofNat_of_zero_le (show 0 ≤ p by omega)
  obtain ⟨A, rfl⟩ := Int.eq_ofNat_of_zero_le ha
  obtain ⟨B, rfl⟩ := Int.eq_ofNat_of_zero_le hb
  have := mul_mod_zero (a := A) (b := B) hm (by simp; omega) (by omega) (by simp; omega) (by simp; exact_mod_cast h)
  omega
theorem inv_ex {p e : Int} (hp : fOk p = true) (h0 : 0 < e) (he : e < p) : ∃ i, 0 ≤ i ∧ i < p ∧ e * i % p = 1 := by
  have hm : p.toNat ∈ primes := by simp only [fOk, Bool.and_eq_true, List.contains_iff_mem] at hp; exact hp.2
  obtain ⟨P, rfl⟩ := Int.eq_ofNat_of_zero_le (show 0 ≤ p by omega)
  obtain ⟨A, rfl⟩ := Int.eq_ofNat_of_zero_le (show 0 ≤ e by omega)
  obtain ⟨i, hi, h⟩ := prime_inv P (by simpa using hm) A (by omega) (by omega)
  exact ⟨i, by omega, by omega, by exact_mod_cast h⟩
/-- Differences below p vanish where they are multiples of p. -/
theorem eq_of_mod {p a b : Int} (ha : 0 ≤ a) (hap : a < p) (hb : 0 ≤ b) (hbp : b < p) (h : a % p = b % p) : a = b := by
  rw [Int.emod_eq_of_lt ha hap, Int.emod_eq_of_lt hb hbp] at h; exact h
theorem mul_cancel {p e a b : Int} (hp : fOk p = true) (he0 : 0 < e) (he : e < p) (ha : 0 ≤ a) (hap : a < p) (hb : 0 ≤ b) (hbp : b < p) (h : a * e % p = b * e % p) : a = b := by
  obtain ⟨i, hi0, hi1, hi⟩ := inv_ex hp he0 he
  refine eq_of_mod ha hap hb hbp ?_
  have h1 : a % p = a * e % p * i % p := by
    rw [Int.mul_emod (a * e % p), Int.emod_emod, ← Int.mul_emod, Int.mul_assoc, Int.mul_emod, hi, Int.mul_one, Int.emod_emod]
  have h2 : b % p = b * e % p * i % p := by
    rw [Int.mul_emod (b * e % p), Int.emod_emod, ← Int.mul_emod, Int.mul_assoc, Int.mul_emod, hi, Int.mul_one, Int.emod_emod]
  rw [h1, h2, h]
def forgB (p e c : Int) (a : Nat) : Bool := (a : Int) * e % p == c
theorem forg_one {p e c : Int} (he : elem p e = true) (hc : elem p c = true) (h0 : e ≠ 0) : cnt (forgB p e c) p.toNat = 1 := by
  obtain ⟨hp, he0, he1⟩ := elem_iff.1 he
  obtain ⟨_, hc0, hc1⟩ := elem_iff.1 hc
  have hb := fOk_bd hp
  obtain ⟨i, hi0, hi1, hi⟩ := inv_ex hp (by omega) he1
  have hm0 := Int.emod_nonneg (c * i) (show p ≠ 0 by omega)
  have hm1 := Int.emod_lt_of_pos (c * i) (show 0 < p by omega)
  have key : c * i % p * e % p = c := by
    rw [Int.mul_emod, Int.emod_emod, ← Int.mul_emod, Int.mul_assoc, Int.mul_comm i e, Int.mul_emod, hi, Int.mul_one, Int.emod_emod, Int.emod_eq_of_lt hc0 hc1]
  refine cnt_unique (a0 := (c * i % p).toNat) (by omega) ?_ ?_
  · simp only [forgB, Int.toNat_of_nonneg hm0, key, beq_self_eq_true]
  · intro a ha h
    simp only [forgB, beq_iff_eq] at h
    have := mul_cancel hp (by omega) he1 (a := a) (b := c * i % p) (by omega) (by omega) hm0 hm1 (by rw [h, key])
    omega
theorem forg_zero {p c : Int} (hc : elem p c = true) : cnt (forgB p 0 c) p.toNat = if c = 0 then p.toNat else 0 := by
  obtain ⟨hp, hc0, hc1⟩ := elem_iff.1 hc
  split
  · rename_i h; subst h; exact cnt_all fun a _ => by simp [forgB]
  · rename_i h; exact cnt_none fun a _ => by simp [forgB]; omega
/-- The count of forgeries. -/
def countForg (p e c : Int) : Int := if elem p e && elem p c then (cnt (forgB p e c) p.toNat : Nat) else -1
theorem countForg_eq (p e c : Int) : countForg p e c = if elem p e && elem p c then (if e ≠ 0 then 1 else if c = 0 then p else 0) else -1 := by
  unfold countForg
  by_cases h : (elem p e && elem p c) = true
  · simp only [h, if_true]
    rw [Bool.and_eq_true] at h
    have hp := fOk_bd (elem_iff.1 h.1).1
    by_cases h0 : e = 0
    · subst h0; rw [forg_zero h.2]; by_cases hc : c = 0 <;> simp [hc]; omega
    · rw [forg_one h.1 h.2 h0]; simp [h0]
  · simp [h]
def viewB (p x d : Int) (a : Nat) : Bool := fsub p x a == d
def countViews (p x d : Int) : Int := if elem p x && elem p d then (cnt (viewB p x d) p.toNat : Nat) else -1
theorem elem_nat {p : Int} (hp : fOk p = true) {a : Nat} (ha : a < p.toNat) : elem p a = true := elem_iff.2 ⟨hp, by omega, by omega⟩
theorem views_one {p x d : Int} (hx : elem p x = true) (hd : elem p d = true) : cnt (viewB p x d) p.toNat = 1 := by
  obtain ⟨hp, hx0, hx1⟩ := elem_iff.1 hx
  obtain ⟨_, hd0, hd1⟩ := elem_iff.1 hd
  have hb := fOk_bd hp
  have hm0 := Int.emod_nonneg (x - d) (show p ≠ 0 by omega)
  have hm1 := Int.emod_lt_of_pos (x - d) (show 0 < p by omega)
  have key : (x - (x - d) % p) % p = d := by
    rw [Int.sub_emod, Int.emod_emod, ← Int.sub_emod, show x - (x - d) = d by omega, Int.emod_eq_of_lt hd0 hd1]
  refine cnt_unique (a0 := ((x - d) % p).toNat) (by omega) ?_ ?_
  · have := elem_nat hp (a := ((x - d) % p).toNat) (by omega)
    simp only [viewB]
    rw [fsub_eq hx this, Int.toNat_of_nonneg hm0, key]; simp
  · intro a ha h
    simp only [viewB, fsub_eq hx (elem_nat hp ha), beq_iff_eq] at h
    have h2 : (a : Int) % p = (x - d) % p := by
      rw [← h, Int.sub_emod x ((x - a) % p), Int.emod_emod, ← Int.sub_emod]; congr 1; omega
    have := eq_of_mod (p := p) (a := a) (b := (x - d) % p) (by omega) (by omega) hm0 hm1 (by rw [h2, Int.emod_emod])
    omega
theorem countViews_eq (p x d : Int) : countViews p x d = if elem p x && elem p d then 1 else -1 := by
  unfold countViews
  by_cases h : (elem p x && elem p d) = true
  · simp only [h, if_true]
    rw [Bool.and_eq_true] at h
    rw [views_one h.1 h.2]; rfl
  · simp [h]
end Go.Proofs.Ytllnnbmgdbinnaa

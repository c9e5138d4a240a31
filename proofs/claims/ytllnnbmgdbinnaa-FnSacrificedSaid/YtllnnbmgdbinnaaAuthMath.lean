/- Authenticated values: sums, multiples, constants, new ones, products by a triple; the check of two triples. No program is named here. -/
import Derived.Test.YtllnnbmgdbinnaaFldL
namespace Go.Proofs.Ytllnnbmgdbinnaa
set_option linter.unusedSimpArgs false
set_option linter.unusedVariables false
theorem m_add_l (p a b : Int) : (a % p + b) % p = (a + b) % p := by simp [Int.add_emod]
theorem m_add_r (p a b : Int) : (a + b % p) % p = (a + b) % p := by simp [Int.add_emod]
theorem m_sub_l (p a b : Int) : (a % p - b) % p = (a - b) % p := by simp [Int.sub_emod]
theorem m_sub_r (p a b : Int) : (a - b % p) % p = (a - b) % p := by simp [Int.sub_emod]
theorem m_mul_l (p a b : Int) : (a % p * b) % p = (a * b) % p := by simp [Int.mul_emod]
theorem m_mul_r (p a b : Int) : (a * (b % p)) % p = (a * b) % p := by simp [Int.mul_emod]
/-- An authenticated value of x. -/
def IsV (p : Int) (al sh ma : List Int) (x : Int) : Prop := formOk p al sh ma = true ∧ fsum p sh = x ∧ fsum p ma = x * fsum p al % p
theorem IsV.form {p : Int} {al sh ma : List Int} {x : Int} (h : IsV p al sh ma x) : formOk p al sh ma = true := h.1
theorem IsV.el {p : Int} {al sh ma : List Int} {x : Int} (h : IsV p al sh ma x) : elem p x = true := by
  rw [← h.2.1]; exact elem_fsum (formOk_iff.1 h.1).2.2.2.1
theorem form_keys {p : Int} {al sh ma : List Int} (h : formOk p al sh ma = true) : keysOk p al = true := (formOk_iff.1 h).1
theorem keys_fOk {p : Int} {al : List Int} (h : keysOk p al = true) : fOk p = true := (allEl_iff.1 (keysOk_iff.1 h).2.2).1
theorem IsV.ok {p : Int} {al sh ma : List Int} {x : Int} (h : IsV p al sh ma x) : authOk p al sh ma = true := by
  have hk := keysOk_iff.1 (form_keys h.1)
  simp only [authOk, h.1, Bool.true_and, h.2.2, h.2.1, fmul_eq h.el (elem_fsum hk.2.2), beq_self_eq_true]
theorem IsV.add {p : Int} {al sa ma sb mb : List Int} {x y : Int} (ha : IsV p al sa ma x) (hb : IsV p al sb mb y) : IsV p al (addL p sa sb) (addL p ma mb) ((x + y) % p) := by
  obtain ⟨k, a1, a2, a3, a4⟩ := formOk_iff.1 ha.1
  obtain ⟨_, b1, b2, b3, b4⟩ := formOk_iff.1 hb.1
  obtain ⟨c1, c2, c3⟩ := addL_el (a1.trans b1.symm) a3 b3
  obtain ⟨d1, d2, d3⟩ := addL_el (a2.trans b2.symm) a4 b4
  refine ⟨formOk_iff.2 ⟨k, by omega, by omega, c2, d2⟩, ?_, ?_⟩
  · rw [c3, ha.2.1, hb.2.1]
  · rw [d3, ha.2.2, hb.2.2, m_add_l, m_add_r, m_mul_l, Int.add_mul]
theorem IsV.scale {p : Int} {al sa ma : List Int} {x c : Int} (ha : IsV p al sa ma x) (hc : elem p c = true) : IsV p al (scaleL p sa c) (scaleL p ma c) (x * c % p) := by
  obtain ⟨k, a1, a2, a3, a4⟩ := formOk_iff.1 ha.1
  obtain ⟨c1, c2, c3⟩ := scaleL_el a3 hc
  obtain ⟨d1, d2, d3⟩ := scaleL_el a4 hc
  refine ⟨formOk_iff.2 ⟨k, by omega, by omega, c2, d2⟩, ?_, ?_⟩
  · rw [c3, ha.2.1]
  · rw [d3, ha.2.2, m_mul_l, m_mul_l]; congr 1; grind
theorem IsV.const {p : Int} {al sa ma : List Int} {x c : Int} (ha : IsV p al sa ma x) (hc : elem p c = true) : IsV p al (constL p sa c) (addL p ma (scaleL p al c)) ((x + c) % p) := by
  obtain ⟨k, a1, a2, a3, a4⟩ := formOk_iff.1 ha.1
  obtain ⟨k1, k2, k3⟩ := keysOk_iff.1 k
  obtain ⟨c1, c2, c3⟩ := constL_el (by omega) a3 hc
  obtain ⟨e1, e2, e3⟩ := scaleL_el k3 hc
  obtain ⟨d1, d2, d3⟩ := addL_el (a2.trans e1.symm) a4 e2
  refine ⟨formOk_iff.2 ⟨k, by omega, by omega, c2, d2⟩, ?_, ?_⟩
  · rw [c3, ha.2.1]
  · rw [d3, ha.2.2, e3, m_add_l, m_add_r, m_mul_l]; congr 1; grind
/-- A new authenticated value out of drawn shares. -/
theorem isV_new {p : Int} {al l m : List Int} {x : Int} (hk : keysOk p al = true) (hx : elem p x = true) (hl : l.length + 1 = al.length) (hm : m.length + 1 = al.length) (hL : allEl p l = true) (hM : allEl p m = true) :
    IsV p al (shareL p x l) (shareL p (fmul p x (fsum p al)) m) x := by
  obtain ⟨k1, k2, k3⟩ := keysOk_iff.1 hk
  have he : elem p (fmul p x (fsum p al)) = true := by rw [fmul_eq hx (elem_fsum k3)]; exact elem_mod (keys_fOk hk) _
  obtain ⟨a1, a2, a3⟩ := shareL_el hL hx
  obtain ⟨b1, b2, b3⟩ := shareL_el hM he
  exact ⟨formOk_iff.2 ⟨hk, by omega, by omega, a2, b2⟩, a3, by rw [b3, fmul_eq hx (elem_fsum k3)]⟩
/-- A product by a triple. -/
theorem IsV.use {p : Int} {al sa ma sb mb sc mc : List Int} {a b x y : Int} (hA : IsV p al sa ma a) (hB : IsV p al sb mb b) (hC : IsV p al sc mc (a * b % p)) (hx : elem p x = true) (hy : elem p y = true) :
    IsV p al (constL p (addL p (addL p sc (scaleL p sb (fsub p x a))) (scaleL p sa (fsub p y b))) (fmul p (fsub p x a) (fsub p y b)))
      (addL p (addL p (addL p mc (scaleL p mb (fsub p x a))) (scaleL p ma (fsub p y b))) (scaleL p al (fmul p (fsub p x a) (fsub p y b)))) (x * y % p) := by
  have hp := keys_fOk (form_keys hA.1)
  have hd : elem p (fsub p x a) = true := by rw [fsub_eq hx hA.el]; exact elem_mod hp _
  have he : elem p (fsub p y b) = true := by rw [fsub_eq hy hB.el]; exact elem_mod hp _
  have hf : elem p (fmul p (fsub p x a) (fsub p y b)) = true := by rw [fmul_eq hd he]; exact elem_mod hp _
  have h := ((hC.add (hB.scale hd)).add (hA.scale he)).const hf
  rw [fmul_eq hd he, fsub_eq hx hA.el, fsub_eq hy hB.el] at h ⊢
  simp only [m_add_l, m_add_r, m_mul_l, m_mul_r] at h ⊢
  rw [show a * b + b * (x - a) + a * (y - b) + (x - a) * (y - b) = x * y by grind] at h
  exact h
/-- The value of the check of two triples. -/
def sacN (p r xa xb xc ya yb yc : Int) : Int :=
  fsub p (fsub p (fsub p (fsub p (fmul p r xc) yc) (fmul p (fsub p xb yb) ya)) (fmul p (fsub p (fmul p r xa) ya) yb)) (fmul p (fsub p (fmul p r xa) ya) (fsub p xb yb))
theorem sacN_eq {p r xa xb xc ya yb yc : Int} (hr : elem p r = true) (h1 : elem p xa = true) (h2 : elem p xb = true) (h3 : elem p xc = true) (h4 : elem p ya = true) (h5 : elem p yb = true) (h6 : elem p yc = true) :
    sacN p r xa xb xc ya yb yc = (r * (xc - xa * xb) - (yc - ya * yb)) % p := by
  have hp := (elem_iff.1 hr).1
  have em := elem_mod hp
  unfold sacN
  rw [fmul_eq hr h3, fmul_eq hr h1, fsub_eq (em _) h6, fsub_eq h2 h5, fsub_eq (em _) h4, fmul_eq (em _) h4, fmul_eq (em _) h5, fmul_eq (em _) (em _), fsub_eq (em _) (em _), fsub_eq (em _) (em _), fsub_eq (em _) (em _)]
  simp only [m_add_l, m_add_r, m_mul_l, m_mul_r, m_sub_l, m_sub_r]
  congr 1; grind
end Go.Proofs.Ytllnnbmgdbinnaa

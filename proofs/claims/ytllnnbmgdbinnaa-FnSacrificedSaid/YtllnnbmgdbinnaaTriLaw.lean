/- What sums, multiples, constants and products of authenticated values answer, and the count of passing elements of two triples. No program is named here. -/
import Derived.Test.YtllnnbmgdbinnaaForgMath
namespace Go.Proofs.Ytllnnbmgdbinnaa
set_option linter.unusedSimpArgs false
set_option linter.unusedVariables false
section
variable {p x y c : Int} {al sa ma sb mb sc mc : List Int}
theorem IsV.addA (ha : IsV p al sa ma x) (hb : IsV p al sb mb y) : IsV p al (aAddS p al sa ma sb mb) (aAddM p al sa ma sb mb) ((x + y) % p) := by
  have h : add2 p al sa ma sb mb = true := by rw [add2, ha.form, hb.form]; rfl
  rw [aAddS_yes h, aAddM_yes h]; exact ha.add hb
theorem IsV.scA (ha : IsV p al sa ma x) (hc : elem p c = true) : IsV p al (aScS p al sa ma c) (aScM p al sa ma c) (x * c % p) := by
  have h : sc1 p al sa ma c = true := by rw [sc1, ha.form, hc]; rfl
  rw [aScS_yes h, aScM_yes h]; exact ha.scale hc
theorem IsV.coA (ha : IsV p al sa ma x) (hc : elem p c = true) : IsV p al (aCoS p al sa ma c) (aCoM p al sa ma c) ((x + c) % p) := by
  have h : sc1 p al sa ma c = true := by rw [sc1, ha.form, hc]; rfl
  rw [aCoS_yes h, aCoM_yes h]; exact ha.const hc
theorem IsV.keys (h : IsV p al sa ma x) : keysOk p al = true := form_keys h.form
theorem IsV.len (h : IsV p al sa ma x) : sa.length = al.length ∧ ma.length = al.length := ⟨(formOk_iff.1 h.form).2.1, (formOk_iff.1 h.form).2.2.1⟩
theorem IsV.five (h : IsV p al sa ma x) : 1 ≤ sa.length ∧ sa.length ≤ 5 := by
  have h1 := keysOk_iff.1 h.keys
  have h2 := h.len
  omega
/-- The double is the sum. -/
theorem dbl_eq {l : List Int} (h : allEl p l = true) : addL p l l = scaleL p l (2 % p) := by
  have hp := (allEl_iff.1 h).1
  have h2 := elem_mod hp 2
  rw [addL_yes rfl h h, scaleL_yes h h2]
  refine List.map_congr_left fun j hj => ?_
  have hj' : j < l.length := by simpa using hj
  have he := (allEl_iff.1 h).2 j hj'
  rw [fmul_eq he h2, m_mul_r]
  simp only [fadd, he, Bool.and_self, if_true]
  congr 1; omega
theorem IsV.dbl (ha : IsV p al sa ma x) : aScS p al sa ma (2 % p) = aAddS p al sa ma sa ma ∧ aScM p al sa ma (2 % p) = aAddM p al sa ma sa ma := by
  obtain ⟨k, _, _, a1, a2⟩ := formOk_iff.1 ha.form
  have h : add2 p al sa ma sa ma = true := by rw [add2, ha.form]; rfl
  have h3 : sc1 p al sa ma (2 % p) = true := by rw [sc1, ha.form, elem_mod (keys_fOk k) 2]; rfl
  rw [aAddS_yes h, aAddM_yes h, aScS_yes h3, aScM_yes h3, dbl_eq a1, dbl_eq a2]
  exact ⟨rfl, rfl⟩
theorem IsV.dblOk (ha : IsV p al sa ma x) : macOk p al (2 * x % p) (aAddM p al sa ma sa ma) = true := by
  have h := ha.addA ha
  rw [macOk_val h (elem_mod (keys_fOk h.keys) _), show x + x = 2 * x by omega]; simp
end
theorem elm_bd {p x y : Int} (hx : elem p x = true) (hy : elem p y = true) : 0 ≤ x * y ∧ x * y ≤ 4294967296 := by
  obtain ⟨hp, x0, x1⟩ := elem_iff.1 hx
  obtain ⟨_, y0, y1⟩ := elem_iff.1 hy
  have hb := fOk_bd hp
  have h1 := Int.mul_nonneg x0 y0
  have h2 : x * y ≤ 65536 * 65536 := Int.mul_le_mul (by omega) (by omega) y0 (by omega)
  omega
/-- New values out of a drawn tape. -/
theorem n_new {p : Int} {al : List Int} {s a : Int} (hk : keysOk p al = true) (x : Int) (hx : elem p x = true) (hs : 0 ≤ s ∧ s ≤ 4294967295) (ha : 0 ≤ a ∧ a ≤ 800000) :
    nOk p al x s a = true ∧ (a ≤ nT p al x s a ∧ nT p al x s a ≤ a + 8) := by
  have h : nOk p al x s a = true := nOk_iff.2 ⟨hk, hx, t9_iff.2 ⟨hs, by omega, by omega⟩⟩
  have := nT_eq h
  exact ⟨h, by omega⟩
theorem isV_n {p : Int} {al : List Int} {s a : Int} (hk : keysOk p al = true) (x : Int) (hx : elem p x = true) (hs : 0 ≤ s ∧ s ≤ 4294967295) (ha : 0 ≤ a ∧ a ≤ 900000) :
    IsV p al (nS p al x s a) (nM p al x s a) x := isV_nOk (nOk_iff.2 ⟨hk, hx, t9_iff.2 ⟨hs, ha.1, ha.2⟩⟩)
theorem tapeM_next {p s a : Int} (hp : fOk p = true) (hs : 0 ≤ s ∧ s ≤ 4294967295) (ha : 0 ≤ a ∧ a ≤ 800000) : tapeM s a p = a + 1 := by
  have h := list_ok (p := p) (s := s) (a := a) (k := 1) hp hs (by omega) (by omega)
  have := tapeM_step (i := 0) h (by omega)
  simpa using this
/-- A new triple. -/
theorem isV_triple {p : Int} {al : List Int} {s a : Int} (hk : keysOk p al = true) (hs : 0 ≤ s ∧ s ≤ 4294967295) (ha : 0 ≤ a ∧ a ≤ 800000) :
    mOk p al s a = true ∧ IsV p al (mAS p al s a) (mAM p al s a) (mX p s a) ∧ IsV p al (mBS p al s a) (mBM p al s a) (mY p s a) ∧ IsV p al (mCS p al s a) (mCM p al s a) (mX p s a * mY p s a % p) ∧ (a ≤ mT p al s a ∧ mT p al s a ≤ a + 30) := by
  have hp := keys_fOk hk
  have ht : mOk p al s a = true := by
    simp only [mOk, hk, tapeOk_iff.2 (show (0 ≤ s ∧ s ≤ 4294967295) ∧ 0 ≤ a ∧ a ≤ 1000000 by omega), Bool.true_and, decide_eq_true_eq]; omega
  have e1 : m1 p s a = a + 1 := tapeM_next hp hs ha
  have e2 : m2 p s a = a + 2 := by
    have h := list_ok (p := p) (s := s) (a := a) (k := 2) hp hs (by omega) (by omega)
    have := tapeM_step (i := 1) h (by omega)
    unfold m2; rw [e1]; rw [show a + 1 = a + ((1 : Nat) : Int) by simp, this]; simp; omega
  have x1 : elem p (mX p s a) = true := tapeB_el hp
  have x2 : elem p (mY p s a) = true := tapeB_el hp
  have x3 : elem p (mZ p s a) = true := by unfold mZ; rw [fmul_eq x1 x2]; exact elem_mod hp _
  have t (x b : Int) (hx : elem p x = true) (hb : 0 ≤ b ∧ b ≤ 899000) : nOk p al x s b = true ∧ (b ≤ nT p al x s b ∧ nT p al x s b ≤ b + 8) := by
    have h : nOk p al x s b = true := nOk_iff.2 ⟨hk, hx, t9_iff.2 ⟨hs, by omega, by omega⟩⟩
    have := nT_eq h
    exact ⟨h, by omega⟩
  obtain ⟨n1, b1⟩ := t _ (m2 p s a) x1 (by omega)
  obtain ⟨n2, b2⟩ := t _ (m3 p al s a) x2 (by unfold m3; omega)
  obtain ⟨n3, b3⟩ := t _ (m4 p al s a) x3 (by unfold m4; unfold m3 at b2 ⊢; omega)
  have v1 := isV_nOk n1
  have v2 := isV_nOk n2
  have v3 := isV_nOk n3
  refine ⟨ht, ?_, ?_, ?_, ?_⟩
  · unfold mAS mAM; rw [ht]; exact v1
  · unfold mBS mBM; rw [ht]; exact v2
  · unfold mCS mCM; rw [ht]
    have e : mZ p s a = mX p s a * mY p s a % p := by unfold mZ; exact fmul_eq x1 x2
    rw [← e]; exact v3
  · unfold mT; rw [ht]
    show a ≤ m5 p al s a ∧ m5 p al s a ≤ a + 30
    unfold m5
    unfold m4 m3 at *
    omega
theorem tripleOk_yes {p : Int} {al sa ma sb mb sc mc : List Int} {a b : Int} (hA : IsV p al sa ma a) (hB : IsV p al sb mb b) (hC : IsV p al sc mc (a * b % p)) : tripleOk p al sa ma sb mb sc mc = true := by
  rw [tripleOk, hA.ok, hB.ok, hC.ok, hA.2.1, hB.2.1, hC.2.1, fmul_eq hA.el hB.el]; simp
section
variable {p a b x y : Int} {al sa ma sb mb sc mc sx mx sy my : List Int}
theorem form4_yes (hx : IsV p al sx mx x) (hy : IsV p al sy my y) (hA : IsV p al sa ma a) (hB : IsV p al sb mb b) : form4 p al sx mx sy my sa ma sb mb = true := by
  rw [form4, hx.form, hy.form, hA.form, hB.form]; rfl
theorem toD_eq (hx : IsV p al sx mx x) (hy : IsV p al sy my y) (hA : IsV p al sa ma a) (hB : IsV p al sb mb b) : toD p al sx mx sy my sa ma sb mb = fsub p x a := by
  rw [toD, form4_yes hx hy hA hB, hx.2.1, hA.2.1]; rfl
theorem toE_eq (hx : IsV p al sx mx x) (hy : IsV p al sy my y) (hA : IsV p al sa ma a) (hB : IsV p al sb mb b) : toE p al sx mx sy my sa ma sb mb = fsub p y b := by
  rw [toE, form4_yes hx hy hA hB, hy.2.1, hB.2.1]; rfl
theorem useV (hx : IsV p al sx mx x) (hy : IsV p al sy my y) (hA : IsV p al sa ma a) (hB : IsV p al sb mb b) (hC : IsV p al sc mc (a * b % p)) :
    IsV p al (uS p al sa ma sb mb sc mc (toD p al sx mx sy my sa ma sb mb) (toE p al sx mx sy my sa ma sb mb)) (uM p al sa ma sb mb sc mc (toD p al sx mx sy my sa ma sb mb) (toE p al sx mx sy my sa ma sb mb)) (x * y % p) := by
  rw [toD_eq hx hy hA hB, toE_eq hx hy hA hB]
  have hp := keys_fOk hx.keys
  have hd : elem p (fsub p x a) = true := by rw [fsub_eq hx.el hA.el]; exact elem_mod hp _
  have he : elem p (fsub p y b) = true := by rw [fsub_eq hy.el hB.el]; exact elem_mod hp _
  have hf : elem p (fmul p (fsub p x a) (fsub p y b)) = true := by rw [fmul_eq hd he]; exact elem_mod hp _
  have hu : uOk p al sa ma sb mb sc mc (fsub p x a) (fsub p y b) = true := by rw [uOk, hA.form, hB.form, hC.form, hd, he]; rfl
  have h1 := hC.addA (hB.scA hd)
  have h2 := h1.addA (hA.scA he)
  have h3 := h2.coA hf
  have hv : ((a * b % p + b * fsub p x a % p) % p + a * fsub p y b % p) % p + fmul p (fsub p x a) (fsub p y b) = ((a * b % p + b * fsub p x a % p) % p + a * fsub p y b % p) % p + fmul p (fsub p x a) (fsub p y b) := rfl
  unfold uS uM; rw [hu]
  have e : x * y % p = (((a * b % p + b * fsub p x a % p) % p + a * fsub p y b % p) % p + fmul p (fsub p x a) (fsub p y b)) % p := by
    rw [fmul_eq hd he, fsub_eq hx.el hA.el, fsub_eq hy.el hB.el]
    simp only [m_add_l, m_add_r, m_mul_l, m_mul_r]
    congr 1; grind
  rw [e]; exact h3
end
theorem IsV.at0 {p x : Int} {al sa ma : List Int} (h : IsV p al sa ma x) : elem p (nth sa 0) = true := by
  have h5 := h.five
  exact (allEl_iff.1 (formOk_iff.1 h.form).2.2.2.1).2 0 (by omega)
theorem set_const {p x c d : Int} {al sa ma : List Int} (h : IsV p al sa ma x) (hc : nth sa 0 = c) (h0 : 1 ≤ 1 + d) (h1 : 1 + d < p) : sa.set 0 ((c + 1 + d) % p) = constL p sa (1 + d) := by
  have hp := keys_fOk h.keys
  have h5 := h.five
  have ek : elem p (1 + d) = true := elem_iff.2 ⟨hp, by omega, h1⟩
  have ha := (formOk_iff.1 h.form).2.2.2.1
  rw [constL_yes (by omega) ha ek, ← hc]
  congr 1
  have e0 := h.at0
  simp only [fadd, e0, ek, Bool.and_self, if_true]
  congr 1; omega
theorem sop_yes {p a b d e r : Int} {al sa ma sb mb sd md se me : List Int} (hA : IsV p al sa ma a) (hB : IsV p al sb mb b) (hD : IsV p al sd md d) (hE : IsV p al se me e) (hr : elem p r = true) : sOpOk p al sa ma sb mb sd md se me r = true := by
  rw [sOpOk, form4_yes hA hB hD hE, hr]; rfl
/-- The check of two triples, the first of which may hold a wrong product. -/
theorem sac_val {p a b z d e r : Int} {al sa ma sb mb sc mc sd md se me sf mf : List Int} (hA : IsV p al sa ma a) (hB : IsV p al sb mb b) (fC : formOk p al sc mc = true) (hz : fsum p sc = z)
    (hD : IsV p al sd md d) (hE : IsV p al se me e) (hF : IsV p al sf mf (d * e % p)) (hr : elem p r = true) :
    sacOk p al sa ma sb mb sc mc sd md se me sf mf r = (r * (z - a * b) % p == 0) := by
  have fz : elem p z = true := by rw [← hz]; exact elem_fsum (formOk_iff.1 fC).2.2.2.1
  have h1 : sOpOk p al sa ma sb mb sd md se me r = true := by rw [sOpOk, form4_yes hA hB hD hE, hr]; rfl
  rw [sacOk, h1, fC, hF.form, hA.2.1, hB.2.1, hz, hD.2.1, hE.2.1, hF.2.1, sacN_eq hr hA.el hB.el fz hD.el hE.el hF.el]
  have : (r * (z - a * b) - (d * e % p - d * e)) % p = r * (z - a * b) % p := by
    rw [Int.sub_emod, Int.sub_emod (d * e % p) (d * e)]; simp
  rw [this]; rfl
theorem sac_all {p a b d e : Int} {al sa ma sb mb sc mc sd md se me sf mf : List Int} (hA : IsV p al sa ma a) (hB : IsV p al sb mb b) (hC : IsV p al sc mc (a * b % p))
    (hD : IsV p al sd md d) (hE : IsV p al se me e) (hF : IsV p al sf mf (d * e % p)) : sacCnt p al sa ma sb mb sc mc sd md se me sf mf = p := by
  have hp := keys_fOk hA.keys
  have hb := fOk_bd hp
  rw [sacCnt, hA.keys, if_pos rfl]
  have : cnt (fun r => sacOk p al sa ma sb mb sc mc sd md se me sf mf r) p.toNat = p.toNat := by
    refine cnt_all fun j hj => ?_
    rw [sac_val hA hB hC.form hC.2.1 hD hE hF (elem_nat hp hj)]
    have : ((j : Int) * (a * b % p - a * b)) % p = 0 := by
      rw [Int.mul_emod, Int.sub_emod]; simp
    simp [this]
  rw [this]; omega
theorem sac_wrong {p a b d e k : Int} {al sa ma sb mb sc mc sd md se me sf mf : List Int} (hA : IsV p al sa ma a) (hB : IsV p al sb mb b) (hC : IsV p al sc mc (a * b % p)) (h0 : 1 ≤ k) (h1 : k < p)
    (hD : IsV p al sd md d) (hE : IsV p al se me e) (hF : IsV p al sf mf (d * e % p)) :
    formOk p al (constL p sc k) mc = true ∧ sacCnt p al sa ma sb mb (constL p sc k) mc sd md se me sf mf = 1 ∧ sacOk p al sa ma sb mb (constL p sc k) mc sd md se me sf mf 0 = true := by
  have hp := keys_fOk hA.keys
  have hb := fOk_bd hp
  obtain ⟨hk, f1, f2, f3, f4⟩ := formOk_iff.1 hC.form
  have hk5 := keysOk_iff.1 hk
  have ek : elem p k = true := elem_iff.2 ⟨hp, by omega, h1⟩
  obtain ⟨c1, c2, c3⟩ := constL_el (by omega) f3 ek
  have fC : formOk p al (constL p sc k) mc = true := formOk_iff.2 ⟨hk, by omega, f2, c2, f4⟩
  have hv (r : Int) (hr : elem p r = true) : sacOk p al sa ma sb mb (constL p sc k) mc sd md se me sf mf r = decide (r = 0) := by
    rw [sac_val hA hB fC c3 hD hE hF hr, hC.2.1]
    obtain ⟨_, r0, r1⟩ := elem_iff.1 hr
    have e1 : r * ((a * b % p + k) % p - a * b) % p = r * k % p := by
      rw [Int.mul_emod, Int.sub_emod, m_add_l, Int.emod_emod_of_dvd _ (Int.dvd_refl p), ← Int.sub_emod, show a * b + k - a * b = k by omega, ← Int.mul_emod]
    rw [e1]
    by_cases h : r = 0
    · subst h; simp
    · rw [decide_eq_false h, beq_eq_false_iff_ne]
      intro e2
      exact h (mul_cancel hp (by omega) h1 r0 r1 (by omega) (by omega) (by rw [e2]; simp))
  refine ⟨fC, ?_, by rw [hv 0 (elem_iff.2 ⟨hp, by omega, by omega⟩)]; rfl⟩
  rw [sacCnt, hA.keys, if_pos rfl]
  have : cnt (fun r => sacOk p al sa ma sb mb (constL p sc k) mc sd md se me sf mf r) p.toNat = 1 := by
    rw [cnt_congr (Q := fun j : Nat => decide ((j : Int) = 0)) fun j hj => hv _ (elem_nat hp hj)]
    exact cnt_unique (a0 := 0) (by omega) (by simp) (fun a _ h => by simpa using h)
  rw [this]; rfl
end Go.Proofs.Ytllnnbmgdbinnaa

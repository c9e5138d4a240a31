/- What the functions of authenticated values, triples and sacrifices answer. No program is named here. -/
import Derived.Test.YtllnnbmgdbinnaaTapeL
import Derived.Test.YtllnnbmgdbinnaaAuthMath
namespace Go.Proofs.Ytllnnbmgdbinnaa
set_option linter.unusedSimpArgs false
set_option linter.unusedVariables false
theorem tapeB_bd {s a n : Int} (hn : inB n 1 65536 = true) : 0 ≤ tapeB s a n ∧ tapeB s a n < n := by
  have h := inB_iff.1 hn
  unfold tapeB
  rw [if_pos hn]
  exact ⟨Int.emod_nonneg _ (by omega), Int.emod_lt_of_pos _ (by omega)⟩
theorem fOk_small {p : Int} (hp : fOk p = true) : inB p 1 65536 = true := by have := fOk_bd hp; exact inB_iff.2 (by omega)
theorem tapeB_el {s a p : Int} (hp : fOk p = true) : elem p (tapeB s a p) = true := elem_iff.2 ⟨hp, tapeB_bd (fOk_small hp)⟩
theorem tapeL_el {s a p k : Int} (hp : fOk p = true) : allEl p (tapeL s a p k) = true := by
  refine allEl_iff.2 ⟨hp, fun j hj => ?_⟩
  unfold tapeL at hj ⊢
  split at hj
  · rename_i h
    rw [if_pos h]
    rw [genL_len] at hj
    rw [genL_nth hj]
    exact tapeB_el hp
  · simp at hj
theorem tapeL_length {s a p : Int} {k : Nat} (h : tListOk s a p k = true) : (tapeL s a p k).length = k := by rw [tapeL_yes h, genL_len]; rfl
/-- A tape that new shares may be drawn from. -/
def t9 (s a : Int) : Bool := tapeOk s a && decide (a ≤ 900000)
theorem t9_iff {s a : Int} : t9 s a = true ↔ (0 ≤ s ∧ s ≤ 4294967295) ∧ 0 ≤ a ∧ a ≤ 900000 := by
  simp only [t9, Bool.and_eq_true, tapeOk_iff, decide_eq_true_eq]; omega
theorem list_ok {s a p : Int} {k : Nat} (hp : fOk p = true) (hs : 0 ≤ s ∧ s ≤ 4294967295) (ha : 0 ≤ a ∧ a ≤ 999000) (hk : k ≤ 1000) : tListOk s a p k = true :=
  tListOk_iff.2 ⟨by omega, inB_iff.1 (fOk_small hp), tapeOk_iff.2 (by omega), by omega⟩
def macOk (p : Int) (al : List Int) (o : Int) (ma : List Int) : Bool := keysOk p al && elem p o && decide (ma.length = al.length) && allEl p ma && (fsum p ma == fmul p o (fsum p al))
def add2 (p : Int) (al sa ma sb mb : List Int) : Bool := formOk p al sa ma && formOk p al sb mb
def aAddS (p : Int) (al sa ma sb mb : List Int) : List Int := if add2 p al sa ma sb mb then addL p sa sb else []
def aAddM (p : Int) (al sa ma sb mb : List Int) : List Int := if add2 p al sa ma sb mb then addL p ma mb else []
def sc1 (p : Int) (al sa ma : List Int) (c : Int) : Bool := formOk p al sa ma && elem p c
def aScS (p : Int) (al sa ma : List Int) (c : Int) : List Int := if sc1 p al sa ma c then scaleL p sa c else []
def aScM (p : Int) (al sa ma : List Int) (c : Int) : List Int := if sc1 p al sa ma c then scaleL p ma c else []
def aCoS (p : Int) (al sa ma : List Int) (c : Int) : List Int := if sc1 p al sa ma c then constL p sa c else []
def aCoM (p : Int) (al sa ma : List Int) (c : Int) : List Int := if sc1 p al sa ma c then addL p ma (scaleL p al c) else []
section
variable {p c : Int} {al sa ma sb mb : List Int}
theorem aAddS_yes (h : add2 p al sa ma sb mb = true) : aAddS p al sa ma sb mb = addL p sa sb := by simp [aAddS, h]
theorem aAddM_yes (h : add2 p al sa ma sb mb = true) : aAddM p al sa ma sb mb = addL p ma mb := by simp [aAddM, h]
theorem aAddS_no (h : add2 p al sa ma sb mb = false) : aAddS p al sa ma sb mb = [] := by simp [aAddS, h]
theorem aAddM_no (h : add2 p al sa ma sb mb = false) : aAddM p al sa ma sb mb = [] := by simp [aAddM, h]
theorem aScS_yes (h : sc1 p al sa ma c = true) : aScS p al sa ma c = scaleL p sa c := by simp [aScS, h]
theorem aScM_yes (h : sc1 p al sa ma c = true) : aScM p al sa ma c = scaleL p ma c := by simp [aScM, h]
theorem aScS_no (h : sc1 p al sa ma c = false) : aScS p al sa ma c = [] := by simp [aScS, h]
theorem aScM_no (h : sc1 p al sa ma c = false) : aScM p al sa ma c = [] := by simp [aScM, h]
theorem aCoS_yes (h : sc1 p al sa ma c = true) : aCoS p al sa ma c = constL p sa c := by simp [aCoS, h]
theorem aCoM_yes (h : sc1 p al sa ma c = true) : aCoM p al sa ma c = addL p ma (scaleL p al c) := by simp [aCoM, h]
theorem aCoS_no (h : sc1 p al sa ma c = false) : aCoS p al sa ma c = [] := by simp [aCoS, h]
theorem aCoM_no (h : sc1 p al sa ma c = false) : aCoM p al sa ma c = [] := by simp [aCoM, h]
theorem addL_len (p : Int) (a b : List Int) : (addL p a b).length ≤ a.length := by
  unfold addL; split
  · rw [genL_len]; omega
  · simp
theorem scaleL_len (p : Int) (a : List Int) (k : Int) : (scaleL p a k).length ≤ a.length := by
  unfold scaleL; split
  · rw [genL_len]; omega
  · simp
theorem constL_len (p : Int) (a : List Int) (k : Int) : (constL p a k).length ≤ a.length := by
  unfold constL; split <;> simp
theorem aAddS_len : (aAddS p al sa ma sb mb).length ≤ sa.length := by
  unfold aAddS; split
  · exact addL_len _ _ _
  · simp
theorem aAddM_len : (aAddM p al sa ma sb mb).length ≤ ma.length := by
  unfold aAddM; split
  · exact addL_len _ _ _
  · simp
theorem aScS_len : (aScS p al sa ma c).length ≤ sa.length := by
  unfold aScS; split
  · exact scaleL_len _ _ _
  · simp
theorem aScM_len : (aScM p al sa ma c).length ≤ ma.length := by
  unfold aScM; split
  · exact scaleL_len _ _ _
  · simp
theorem aCoS_len : (aCoS p al sa ma c).length ≤ sa.length := by
  unfold aCoS; split
  · exact constL_len _ _ _
  · simp
theorem aCoM_len : (aCoM p al sa ma c).length ≤ ma.length := by
  unfold aCoM; split
  · exact addL_len _ _ _
  · simp
end
/-- New keys. -/
def kOk (p n s a : Int) : Bool := fOk p && inB n 1 5 && t9 s a
def kP (p n s a : Int) : Int := if kOk p n s a then p else 0
def kL (p n s a : Int) : List Int := if kOk p n s a then tapeL s a p n else []
def kT (p n s a : Int) : Int := if kOk p n s a then tapeLN s a p n else a
/-- New authenticated values. -/
def nOk (p : Int) (al : List Int) (x s a : Int) : Bool := keysOk p al && elem p x && t9 s a
def nK (al : List Int) : Int := (al.length : Int) - 1
def nS (p : Int) (al : List Int) (x s a : Int) : List Int := if nOk p al x s a then shareL p x (tapeL s a p (nK al)) else []
def nM (p : Int) (al : List Int) (x s a : Int) : List Int := if nOk p al x s a then shareL p (fmul p x (fsum p al)) (tapeL s (tapeLN s a p (nK al)) p (nK al)) else []
def nT (p : Int) (al : List Int) (x s a : Int) : Int := if nOk p al x s a then tapeLN s (tapeLN s a p (nK al)) p (nK al) else a
theorem kL_len (p n s a : Int) : (kL p n s a).length ≤ 1000 := by
  unfold kL; split
  · exact tapeL_len _ _ _ _
  · simp
theorem nS_len (p : Int) (al : List Int) (x s a : Int) : (nS p al x s a).length ≤ 1001 := by
  unfold nS; split
  · have := tapeL_len s a p (nK al); simp [shareL]; omega
  · simp
theorem nM_len (p : Int) (al : List Int) (x s a : Int) : (nM p al x s a).length ≤ 1001 := by
  unfold nM; split
  · have := tapeL_len s (tapeLN s a p (nK al)) p (nK al); simp [shareL]; omega
  · simp
theorem nOk_iff {p : Int} {al : List Int} {x s a : Int} : nOk p al x s a = true ↔ keysOk p al = true ∧ elem p x = true ∧ t9 s a = true := by
  simp only [nOk, Bool.and_eq_true, and_assoc]
theorem nT_eq {p : Int} {al : List Int} {x s a : Int} (h : nOk p al x s a = true) : nT p al x s a = a + nK al + nK al ∧ 0 ≤ nK al ∧ nK al ≤ 4 := by
  obtain ⟨h1, h2, h3⟩ := nOk_iff.1 h
  obtain ⟨k1, k2, k3⟩ := keysOk_iff.1 h1
  obtain ⟨s1, a1, a2⟩ := t9_iff.1 h3
  have hp := keys_fOk h1
  have hk : nK al = ((al.length - 1 : Nat) : Int) := by unfold nK; omega
  have l1 := list_ok (s := s) (a := a) (k := al.length - 1) hp s1 (by omega) (by omega)
  have l2 := list_ok (s := s) (a := a + nK al) (k := al.length - 1) hp s1 (by unfold nK; omega) (by omega)
  rw [← hk] at l1 l2
  refine ⟨?_, by unfold nK; omega, by unfold nK; omega⟩
  unfold nT
  rw [if_pos h, tapeLN_yes l1, tapeLN_yes l2]
theorem isV_nOk {p : Int} {al : List Int} {x s a : Int} (h : nOk p al x s a = true) : IsV p al (nS p al x s a) (nM p al x s a) x := by
  obtain ⟨h1, h2, h3⟩ := nOk_iff.1 h
  obtain ⟨k1, k2, k3⟩ := keysOk_iff.1 h1
  obtain ⟨s1, a1, a2⟩ := t9_iff.1 h3
  have hp := keys_fOk h1
  have hk : nK al = ((al.length - 1 : Nat) : Int) := by unfold nK; omega
  have l1 := list_ok (s := s) (a := a) (k := al.length - 1) hp s1 (by omega) (by omega)
  have l2 := list_ok (s := s) (a := a + nK al) (k := al.length - 1) hp s1 (by unfold nK; omega) (by omega)
  have e1 := tapeL_length l1
  have e2 := tapeL_length l2
  rw [← hk] at l1 e1 e2
  unfold nS nM
  rw [if_pos h, if_pos h, tapeLN_yes l1]
  exact isV_new h1 h2 (by rw [e1]; omega) (by rw [e2]; omega) (tapeL_el hp) (tapeL_el hp)
/-- New triples. -/
def mOk (p : Int) (al : List Int) (s a : Int) : Bool := keysOk p al && tapeOk s a && decide (a ≤ 800000)
def mX (p s a : Int) : Int := tapeB s a p
def m1 (p s a : Int) : Int := tapeM s a p
def mY (p s a : Int) : Int := tapeB s (m1 p s a) p
def m2 (p s a : Int) : Int := tapeM s (m1 p s a) p
def m3 (p : Int) (al : List Int) (s a : Int) : Int := nT p al (mX p s a) s (m2 p s a)
def m4 (p : Int) (al : List Int) (s a : Int) : Int := nT p al (mY p s a) s (m3 p al s a)
def mZ (p s a : Int) : Int := fmul p (mX p s a) (mY p s a)
def m5 (p : Int) (al : List Int) (s a : Int) : Int := nT p al (mZ p s a) s (m4 p al s a)
def mAS (p : Int) (al : List Int) (s a : Int) : List Int := if mOk p al s a then nS p al (mX p s a) s (m2 p s a) else []
def mAM (p : Int) (al : List Int) (s a : Int) : List Int := if mOk p al s a then nM p al (mX p s a) s (m2 p s a) else []
def mBS (p : Int) (al : List Int) (s a : Int) : List Int := if mOk p al s a then nS p al (mY p s a) s (m3 p al s a) else []
def mBM (p : Int) (al : List Int) (s a : Int) : List Int := if mOk p al s a then nM p al (mY p s a) s (m3 p al s a) else []
def mCS (p : Int) (al : List Int) (s a : Int) : List Int := if mOk p al s a then nS p al (mZ p s a) s (m4 p al s a) else []
def mCM (p : Int) (al : List Int) (s a : Int) : List Int := if mOk p al s a then nM p al (mZ p s a) s (m4 p al s a) else []
def mT (p : Int) (al : List Int) (s a : Int) : Int := if mOk p al s a then m5 p al s a else a
theorem len_if {b : Bool} {l : List Int} {n : Nat} (h : l.length ≤ n) : (if b then l else []).length ≤ n := by cases b <;> simp [h]
theorem mAS_len (p : Int) (al : List Int) (s a : Int) : (mAS p al s a).length ≤ 1001 := len_if (nS_len _ _ _ _ _)
theorem mAM_len (p : Int) (al : List Int) (s a : Int) : (mAM p al s a).length ≤ 1001 := len_if (nM_len _ _ _ _ _)
theorem mBS_len (p : Int) (al : List Int) (s a : Int) : (mBS p al s a).length ≤ 1001 := len_if (nS_len _ _ _ _ _)
theorem mBM_len (p : Int) (al : List Int) (s a : Int) : (mBM p al s a).length ≤ 1001 := len_if (nM_len _ _ _ _ _)
theorem mCS_len (p : Int) (al : List Int) (s a : Int) : (mCS p al s a).length ≤ 1001 := len_if (nS_len _ _ _ _ _)
theorem mCM_len (p : Int) (al : List Int) (s a : Int) : (mCM p al s a).length ≤ 1001 := len_if (nM_len _ _ _ _ _)
/-- Triples: their check, their opening, their use. -/
def tripleOk (p : Int) (al sa ma sb mb sc mc : List Int) : Bool := authOk p al sa ma && authOk p al sb mb && authOk p al sc mc && (fsum p sc == fmul p (fsum p sa) (fsum p sb))
def form4 (p : Int) (al sa ma sb mb sc mc sd md : List Int) : Bool := formOk p al sa ma && formOk p al sb mb && formOk p al sc mc && formOk p al sd md
def toD (p : Int) (al sa ma sb mb sc mc sd md : List Int) : Int := if form4 p al sa ma sb mb sc mc sd md then fsub p (fsum p sa) (fsum p sc) else 0
def toE (p : Int) (al sa ma sb mb sc mc sd md : List Int) : Int := if form4 p al sa ma sb mb sc mc sd md then fsub p (fsum p sb) (fsum p sd) else 0
def uOk (p : Int) (al sa ma sb mb sc mc : List Int) (d e : Int) : Bool := formOk p al sa ma && formOk p al sb mb && formOk p al sc mc && (elem p d && elem p e)
/-- The sum of C and d times B. -/
def u1S (p : Int) (al sb mb sc mc : List Int) (d : Int) : List Int := aAddS p al sc mc (aScS p al sb mb d) (aScM p al sb mb d)
def u1M (p : Int) (al sb mb sc mc : List Int) (d : Int) : List Int := aAddM p al sc mc (aScS p al sb mb d) (aScM p al sb mb d)
def u2S (p : Int) (al sa ma sb mb sc mc : List Int) (d e : Int) : List Int := aAddS p al (u1S p al sb mb sc mc d) (u1M p al sb mb sc mc d) (aScS p al sa ma e) (aScM p al sa ma e)
def u2M (p : Int) (al sa ma sb mb sc mc : List Int) (d e : Int) : List Int := aAddM p al (u1S p al sb mb sc mc d) (u1M p al sb mb sc mc d) (aScS p al sa ma e) (aScM p al sa ma e)
def uS (p : Int) (al sa ma sb mb sc mc : List Int) (d e : Int) : List Int := if uOk p al sa ma sb mb sc mc d e then aCoS p al (u2S p al sa ma sb mb sc mc d e) (u2M p al sa ma sb mb sc mc d e) (fmul p d e) else []
def uM (p : Int) (al sa ma sb mb sc mc : List Int) (d e : Int) : List Int := if uOk p al sa ma sb mb sc mc d e then aCoM p al (u2S p al sa ma sb mb sc mc d e) (u2M p al sa ma sb mb sc mc d e) (fmul p d e) else []
section
variable {p d e : Int} {al sa ma sb mb sc mc : List Int}
theorem u1S_len : (u1S p al sb mb sc mc d).length ≤ sc.length := aAddS_len
theorem u1M_len : (u1M p al sb mb sc mc d).length ≤ mc.length := aAddM_len
theorem u2S_len : (u2S p al sa ma sb mb sc mc d e).length ≤ sc.length := Nat.le_trans aAddS_len u1S_len
theorem u2M_len : (u2M p al sa ma sb mb sc mc d e).length ≤ mc.length := Nat.le_trans aAddM_len u1M_len
theorem uS_len : (uS p al sa ma sb mb sc mc d e).length ≤ sc.length := len_if (Nat.le_trans aCoS_len u2S_len)
theorem uM_len : (uM p al sa ma sb mb sc mc d e).length ≤ mc.length := len_if (Nat.le_trans aCoM_len u2M_len)
end
/-- The check of two triples: x (a, b, c) and y (d, e, f). -/
def sOpOk (p : Int) (al xa xm ya ym za zm wa wm : List Int) (r : Int) : Bool := form4 p al xa xm ya ym za zm wa wm && elem p r
def soD (p : Int) (al xas xam xbs xbm yas yam ybs ybm : List Int) (r : Int) : Int := if sOpOk p al xas xam xbs xbm yas yam ybs ybm r then fsub p (fmul p r (fsum p xas)) (fsum p yas) else 0
def soE (p : Int) (al xas xam xbs xbm yas yam ybs ybm : List Int) (r : Int) : Int := if sOpOk p al xas xam xbs xbm yas yam ybs ybm r then fsub p (fsum p xbs) (fsum p ybs) else 0
def sacOk (p : Int) (al xas xam xbs xbm xcs xcm yas yam ybs ybm ycs ycm : List Int) (r : Int) : Bool :=
  sOpOk p al xas xam xbs xbm yas yam ybs ybm r && formOk p al xcs xcm && formOk p al ycs ycm &&
  (sacN p r (fsum p xas) (fsum p xbs) (fsum p xcs) (fsum p yas) (fsum p ybs) (fsum p ycs) == 0)
def sacCnt (p : Int) (al xas xam xbs xbm xcs xcm yas yam ybs ybm ycs ycm : List Int) : Int :=
  if keysOk p al then (cnt (fun r => sacOk p al xas xam xbs xbm xcs xcm yas yam ybs ybm ycs ycm r) p.toNat : Nat) else 0
end Go.Proofs.Ytllnnbmgdbinnaa

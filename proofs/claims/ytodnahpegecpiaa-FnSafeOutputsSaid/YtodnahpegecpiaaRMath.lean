/- What garbling, publishing and evaluating make is well formed. No program is walked here. -/
import Derived.Test.YtodnahpegecpiaaGar
import Derived.Test.YtodnahpegecpiaaPuo
import Derived.Test.YtodnahpegecpiaaInL
namespace Go.Proofs.Ytodnahpegecpiaa
set_option linter.unusedSimpArgs false
set_option linter.unusedVariables false
section
variable {l : List (Int × Int × Int)} {o : List Int} {s a d : Int} {zs ts cs ds ls bs : List Int}
theorem labelsOk_of {l : List Int} {n : Int} (h : allLab l = true) (hn : (l.length : Int) = n) : labelsOk l n = true := by
  rw [labelsOk, h]; simp [hn]
theorem gar_gb (h : garbOk l o s a = true) : gbOk l o (garD l o s a) (garZ l o s a) (garT l o s a) = true := by
  obtain ⟨hc, hd⟩ := and_true_of h
  have ht := (and_true_of hd).1
  have ld := deltaOf_lab s a
  rw [garD_yes h, garZ_yes h, garT_yes h, gbOk, hc, ld, labelsOk_of (gZs_lab hc ht ld _ (Nat.le_refl _)) (by rw [gZs_len]), labelsOk_of (gTs_lab hc ht ld _ (Nat.le_refl _)) (by rw [gTs_len]; simp [countG])]
  have ho := deltaOf_odd hd
  have hb : bits .and .i64 (deltaOf s a) 1 = 1 := by have := bit0_lab ld; rw [bit0, ho] at this; exact this
  rw [hb]; rfl
theorem labelFor_lab {z d v : Int} (hz : lab z = true) (hd : lab d = true) (hv : inB v 0 1 = true) : lab (labelFor z d v) = true := by
  rw [labelFor, hz, hd, hv]
  simp only [Bool.and_self, if_true]
  split
  · exact xo_lab hz hd
  · exact hz
theorem cstL_lab (hc : circOk l o = true) (hd : lab d = true) (hz : allLab zs = true) (hl : zs.length = l.length) : ∀ k, k ≤ l.length → allLab (cstL d zs l k) = true
  | 0, _ => rfl
  | k + 1, hk => by
    have ih := cstL_lab hc hd hz hl k (by omega)
    rw [cstL, allLab_app, ih, Bool.true_and]
    have hzk : lab (nth zs k) = true := all_nth hz (by omega)
    rcases gate_cases hc (show k < l.length by omega) with ⟨m, hg, hm⟩ | ⟨m, hg, hm⟩ | ⟨m, j, hg, hm, hj⟩ | ⟨m, j, hg, hm, hj⟩ | ⟨m, hg, hm⟩ <;> rw [hg]
    · rfl
    · have := labelFor_lab hzk hd (v := (m : Int)) (inB_iff.2 ⟨by omega, by omega⟩)
      show allLab [_] = true
      simp [allLab, this]
    · rfl
    · rfl
    · rfl
theorem genL_all {p : Int → Bool} {f : Nat → Int} : ∀ {n : Nat}, (∀ j, j < n → p (f j) = true) → (genL f n).all p = true
  | 0, _ => rfl
  | n + 1, h => by rw [genL_snoc, List.all_append, genL_all (fun j hj => h j (by omega))]; simp [h n (by omega)]
theorem pu_pb (h : gbOk l o d zs ts = true) : pbOk l o ts (cstL d zs l l.length) (genL (pdF o zs) o.length) = true := by
  have hc := gb_circ h
  have hd := gb_d h
  obtain ⟨zl, zz⟩ := gb_zs h
  obtain ⟨tl, tt⟩ := gb_ts h
  rw [pbOk, hc, labelsOk_of tt (by rw [tl]; simp), labelsOk_of (cstL_lab hc hd zz zl _ (Nat.le_refl _)) (by rw [cstL_len]; rfl)]
  have hb : allBit (genL (pdF o zs) o.length) = true := genL_all fun j hj => by
    obtain ⟨m, hm, hml⟩ := circ_out hc hj
    have hz : lab (nth zs m) = true := all_nth zz (by omega)
    have := bit0_or hz
    rw [pdF, hm]
    show bitB (bits .and .i64 (nth zs m) 1) = true
    unfold bit0 at this
    rcases this with e | e <;> rw [e] <;> rfl
  simp [bitsOk, hb, genL_len]
theorem evAnd_lab {a b g e : Int} {n : Nat} (hn : n ≤ 6000) (ha : lab a = true) (hb : lab b = true) (hg : lab g = true) (he : lab e = true) : lab (evAnd a b g e n) = true := by
  have h6 : inB (n : Int) 0 6000 = true := inB_iff.2 ⟨by omega, by omega⟩
  rw [evAnd, evAndOk, ha, hb, hg, he, h6]
  simp only [Bool.and_self, if_true]
  exact xo_lab (xo_lab (xo_lab (hash_lab ha (inB2 hn)) (hash_lab hb (inB3 hn))) (sel_lab hg)) (sel_lab (xo_lab he ha))
theorem labs_all {l : List Int} {n : Int} (h : labelsOk l n = true) : allLab l = true ∧ (l.length : Int) = n := by
  obtain ⟨h1, h2⟩ := and_true_of (show (allLab l && ((l.length : Int) == n)) = true from h)
  exact ⟨h1, by simpa using h2⟩
theorem pb_labs (h : pbOk l o ts cs ds = true) : allLab ts = true ∧ allLab cs = true :=
  ⟨(labs_all (and_true_of (and_true_of (and_true_of h).1).1).2).1, (labs_all (and_true_of (and_true_of h).1).2).1⟩
theorem eXs_lab (h : pbOk l o ts cs ds = true) (hl : labelsOk ls 80 = true) : ∀ k, k ≤ l.length → allLab (eXs ls cs ts l k) = true
  | 0, _ => rfl
  | k + 1, hk => by
    have ih := eXs_lab h hl k (by omega)
    have hc := pb_circ h
    have h6 := circ_len hc
    have le := eXs_len ls cs ts l k
    obtain ⟨l1, l2⟩ := labs_all hl
    obtain ⟨t1, c1⟩ := pb_labs h
    have tl := pb_tab h
    have cl := pb_cst h
    have at_ : ∀ i, i < k → lab (nth (eXs ls cs ts l k) i) = true := fun i hi => all_nth ih (by omega)
    rw [eXs, allLab_snoc, ih, Bool.true_and]
    rcases gate_cases hc (show k < l.length by omega) with ⟨m, hg, hm⟩ | ⟨m, hg, hm⟩ | ⟨m, j, hg, hm, hj⟩ | ⟨m, j, hg, hm, hj⟩ | ⟨m, hg, hm⟩ <;> rw [xNew, hg]
    · exact all_nth l1 (by show m < _; omega)
    · have hlt := cntG_lt (l := l) (kind := 2) (show k < l.length by omega) (by rw [hg])
      exact all_nth c1 (by unfold countG at cl; omega)
    · exact xo_lab (at_ m hm) (at_ j hj)
    · have hlt := cntG_lt (l := l) (kind := 4) (show k < l.length by omega) (by rw [hg])
      unfold countG at tl
      exact evAnd_lab (by omega) (at_ m hm) (at_ j hj) (all_nth t1 (by omega)) (all_nth t1 (by omega))
    · exact at_ m hm
theorem bits80 (h : bitsOk bs 80 = true) : allBit bs = true ∧ bs.length = 80 := by
  obtain ⟨h1, h2⟩ := and_true_of (show (allBit bs && ((bs.length : Int) == 80)) = true from h)
  exact ⟨h1, by simp at h2; omega⟩
theorem inOk_of (hd : dlOk s a = true) (hb : bitsOk bs 80 = true) : inOk s a bs = true := by
  obtain ⟨h1, h2⟩ := bits80 hb
  simp [inOk, hd, h1, h2]
theorem inLab_labs (hd : dlOk s a = true) (hb : bitsOk bs 80 = true) : labelsOk (inLab s a bs) 80 = true := by
  obtain ⟨h1, h2⟩ := bits80 hb
  rw [inLab_yes (inOk_of hd hb)]
  refine labelsOk_of (genL_all fun j hj => ?_) (by rw [genL_len, h2]; rfl)
  exact labelFor_lab (inputZero_lab (and_true_of hd).1 (inB_iff.2 ⟨by omega, by omega⟩)) (deltaOf_lab _ _) (all_nth h1 hj)
end
/-- The run of a garbled circuit. -/
def rgOk (l : List (Int × Int × Int)) (o : List Int) (s a : Int) (bs : List Int) : Bool := garbOk l o s a && bitsOk bs 80
def rgW (l : List (Int × Int × Int)) (o : List Int) (s a : Int) (bs : List Int) : List Int :=
  evL l o (puT l o (garD l o s a) (garZ l o s a) (garT l o s a)) (puC l o (garD l o s a) (garZ l o s a) (garT l o s a)) (puD l o (garD l o s a) (garZ l o s a) (garT l o s a)) (inLab s a bs)
def rgL (l : List (Int × Int × Int)) (o : List Int) (s a : Int) (bs : List Int) : List Int :=
  if rgOk l o s a bs then decO l o (puT l o (garD l o s a) (garZ l o s a) (garT l o s a)) (puC l o (garD l o s a) (garZ l o s a) (garT l o s a)) (puD l o (garD l o s a) (garZ l o s a) (garT l o s a)) (rgW l o s a bs) else []
section
variable {l : List (Int × Int × Int)} {o : List Int} {s a : Int} {bs : List Int}
theorem rgL_yes (h : rgOk l o s a bs = true) : rgL l o s a bs = decO l o (puT l o (garD l o s a) (garZ l o s a) (garT l o s a)) (puC l o (garD l o s a) (garZ l o s a) (garT l o s a)) (puD l o (garD l o s a) (garZ l o s a) (garT l o s a)) (rgW l o s a bs) := by simp [rgL, h]
theorem rgL_no (h : rgOk l o s a bs = false) : rgL l o s a bs = [] := by simp [rgL, h]
theorem rgL_len (l : List (Int × Int × Int)) (o : List Int) (s a : Int) (bs : List Int) : (rgL l o s a bs).length ≤ o.length := by
  unfold rgL; split
  · exact decO_len _ _ _ _ _ _
  · simp
theorem rg_pb (h : rgOk l o s a bs = true) : pbOk l o (puT l o (garD l o s a) (garZ l o s a) (garT l o s a)) (puC l o (garD l o s a) (garZ l o s a) (garT l o s a)) (puD l o (garD l o s a) (garZ l o s a) (garT l o s a)) = true := by
  have hg := gar_gb (and_true_of h).1
  rw [puT_yes hg, puC_yes hg, puD_yes hg]
  exact pu_pb hg
theorem rg_ev (h : rgOk l o s a bs = true) : evOk l o (puT l o (garD l o s a) (garZ l o s a) (garT l o s a)) (puC l o (garD l o s a) (garZ l o s a) (garT l o s a)) (puD l o (garD l o s a) (garZ l o s a) (garT l o s a)) (inLab s a bs) = true := by
  rw [evOk, rg_pb h, inLab_labs (and_true_of (and_true_of h).1).2 (and_true_of h).2]; rfl
theorem rg_dec (h : rgOk l o s a bs = true) : decOk l o (puT l o (garD l o s a) (garZ l o s a) (garT l o s a)) (puC l o (garD l o s a) (garZ l o s a) (garT l o s a)) (puD l o (garD l o s a) (garZ l o s a) (garT l o s a)) (rgW l o s a bs) = true := by
  have he := rg_ev h
  rw [decOk, rg_pb h, rgW, evL_yes he, labelsOk_of (eXs_lab (rg_pb h) (and_true_of he).2 _ (Nat.le_refl _)) (by rw [eXs_len])]; rfl
end
end Go.Proofs.Ytodnahpegecpiaa

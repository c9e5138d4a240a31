/- Every wire's label is that of its value; decoding gives the circuit's outputs. No program is walked here. -/
import Derived.Test.YtodnahpegecpiaaRMath
import Derived.Test.YtodnahpegecpiaaOut
namespace Go.Proofs.Ytodnahpegecpiaa
set_option linter.unusedSimpArgs false
set_option linter.unusedVariables false
def hp (x n : Int) : Int := if 0 ≤ hashI x n then hashI x n else 0
theorem hp_nn (x n : Int) : 0 ≤ hp x n := by unfold hp; split <;> omega
theorem hp_lab {x n : Int} (h : lab (hashI x n) = true) : hashI x n = hp x n := by unfold hp; rw [if_pos (lab_iff.1 h).1]
theorem xo_xl {a b : Int} (ha : lab a = true) (hb : lab b = true) : xo a b = xl a b := by
 obtain ⟨m, rfl, hm⟩ := lab_nat ha
 obtain ⟨n, rfl, hn⟩ := lab_nat hb
 rw [xo_nat hm hn, xl_nat]
theorem sel_ifB {b x : Int} (hb : lab b = true) : sel b x = ifB b x := by unfold sel sel1 ifB; rw [bit0_lab hb]
theorem labelFor_xl {z d v : Int} (hz : lab z = true) (hd : lab d = true) (hv : v = 0 ∨ v = 1) : labelFor z d v = xl z (v * d) := by
 have hi : inB v 0 1 = true := inB_iff.2 (by omega)
 rw [labelFor, hz, hd, hi]
 rcases hv with rfl | rfl
 ·simp [xl_zero (lab_iff.1 hz).1]
 ·simp [xo_xl hz hd]
section
variable {d a b va vb : Int} {n : Nat}
theorem half_gate (hn : n ≤ 6000) (ld : lab d = true) (ho : d % 2 = 1) (la : lab a = true) (lb : lab b = true) (hva : va = 0 ∨ va = 1) (hvb : vb = 0 ∨ vb = 1) :
  evAnd (labelFor a d va) (labelFor b d vb) (tabG d a b n) (tabE d a b n) n = labelFor (andZ d a b n) d (va * vb) := by
 have lg := tabG_lab hn ld la lb
 have le := tabE_lab hn ld la lb
 have lz := andZ_lab hn ld la lb
 have iva : inB va 0 1 = true := inB_iff.2 (by omega)
 have ivb : inB vb 0 1 = true := inB_iff.2 (by omega)
 have lA := labelFor_lab la ld iva
 have lB := labelFor_lab lb ld ivb
 have h6 : inB (n : Int) 0 6000 = true := inB_iff.2 ⟨by omega, by omega⟩
 have G : ∀ {x y : Int}, lab x = true → lab y = true → tabG d x y n = gT hp n x y d := by
  intro x y lx ly
  unfold tabG gT
  have h1 := hash_lab lx (inB2 hn)
  have h2 := hash_lab (xo_lab lx ld) (inB2 hn)
  rw [xo_xl (xo_lab h1 h2) (sel_lab ld), xo_xl h1 h2, sel_ifB ly, hp_lab h1, hp_lab h2, xo_xl lx ld]
 have E : ∀ {x y : Int}, lab x = true → lab y = true → tabE d x y n = gE hp n x y d := by
  intro x y lx ly
  unfold tabE gE
  have h1 := hash_lab ly (inB3 hn)
  have h2 := hash_lab (xo_lab ly ld) (inB3 hn)
  rw [xo_xl (xo_lab h1 h2) lx, xo_xl h1 h2, hp_lab h1, hp_lab h2, xo_xl ly ld]
 have V : ∀ {x y g e : Int}, lab x = true → lab y = true → lab g = true → lab e = true → xo (xo (xo (hashI x (2 * n)) (hashI y (2 * n + 1))) (sel x g)) (sel y (xo e x)) = andL hp n x y g e := by
  intro x y g e lx ly lg le
  unfold andL
  have h1 := hash_lab lx (inB2 hn)
  have h2 := hash_lab ly (inB3 hn)
  rw [xo_xl (xo_lab (xo_lab h1 h2) (sel_lab lg)) (sel_lab (xo_lab le lx)), xo_xl (xo_lab h1 h2) (sel_lab lg), xo_xl h1 h2, sel_ifB lx, sel_ifB ly, xo_xl le lx, hp_lab h1, hp_lab h2]
 have hz : andZ d a b n = andL hp n a b (gT hp n a b d) (gE hp n a b d) := by
  rw [← G la lb, ← E la lb, ← V la lb lg le]; rfl
 have hv : va * vb = 0 ∨ va * vb = 1 := by rcases hva with rfl | rfl <;> rcases hvb with rfl | rfl <;> simp
 rw [evAnd, evAndOk, lA, lB, lg, le, h6]
 simp only [Bool.and_self, if_true]
 rw [V lA lB lg le, G la lb, E la lb, labelFor_xl la ld hva, labelFor_xl lb ld hvb, labelFor_xl lz ld hv, hz]
 exact andL_right (h := hp) (n := n) hp_nn (lab_iff.1 la).1 (lab_iff.1 lb).1 (lab_iff.1 ld).1 ho hva hvb
theorem xor_labels (ld : lab d = true) (la : lab a = true) (lb : lab b = true) (hva : va = 0 ∨ va = 1) (hvb : vb = 0 ∨ vb = 1) :
  xo (labelFor a d va) (labelFor b d vb) = labelFor (xo a b) d (bits .xor .i64 va vb) := by
 have iva : inB va 0 1 = true := inB_iff.2 (by omega)
 have ivb : inB vb 0 1 = true := inB_iff.2 (by omega)
 have hx : bits .xor .i64 va vb = 0 ∨ bits .xor .i64 va vb = 1 := by rcases hva with rfl | rfl <;> rcases hvb with rfl | rfl <;> decide
 rw [xo_xl (labelFor_lab la ld iva) (labelFor_lab lb ld ivb), labelFor_xl la ld hva, labelFor_xl lb ld hvb, labelFor_xl (xo_lab la lb) ld hx, xo_xl la lb]
 have a0 := (lab_iff.1 la).1
 have b0 := (lab_iff.1 lb).1
 have d0 := (lab_iff.1 ld).1
 rcases hva with rfl | rfl <;> rcases hvb with rfl | rfl
 ·rw [show bits .xor .i64 0 0 = 0 by decide]; simp [xl_zero, a0, b0, xl_nn]
 ·rw [show bits .xor .i64 0 1 = 1 by decide]; simp [xl_zero, a0, b0, xl_nn, xl_assoc]
 ·rw [show bits .xor .i64 1 0 = 1 by decide]; simp [xl_zero, a0, b0, xl_nn, xl_assoc]; rw [xl_comm d b]
 ·rw [show bits .xor .i64 1 1 = 0 by decide]; simp [xl_zero, a0, b0, xl_nn, xl_assoc]; rw [xl_left d b d, xl_self, xl_zero b0]
theorem not_label (ld : lab d = true) (la : lab a = true) (hva : va = 0 ∨ va = 1) : labelFor a d va = labelFor (xo a d) d (1 - va) := by
 have a0 := (lab_iff.1 la).1
 have d0 := (lab_iff.1 ld).1
 rw [labelFor_xl la ld hva, labelFor_xl (xo_lab la ld) ld (by omega), xo_xl la ld]
 rcases hva with rfl | rfl
 ·simp [xl_assoc, xl_self, xl_zero, a0]
 ·simp [xl_zero, xl_nn]
end
end Go.Proofs.Ytodnahpegecpiaa
namespace Go.Proofs.Ytodnahpegecpiaa
set_option linter.unusedSimpArgs false
set_option linter.unusedVariables false
theorem nth_app {l m : List Int} {i : Nat} (h : i < l.length) : nth (l ++ m) i = nth l i := by
 rw [nth_lt (by simp; omega), nth_lt h, List.getElem_append_left h]
theorem nth_end {l : List Int} {x : Int} {m : List Int} {k : Nat} (h : l.length = k) : nth (l ++ x :: m) k = x := by
 subst h
 rw [nth_lt (by simp)]
 simp
theorem nth_end2 {l : List Int} {x y : Int} {k : Nat} (h : l.length = k) : nth (l ++ [x, y]) (k + 1) = y := by
 subst h
 rw [nth_lt (by simp)]
 simp
theorem pre_nth {F : Nat → List Int} (hF : ∀ k, ∃ m, F (k + 1) = F k ++ m) {k i : Nat} (hi : i < (F k).length) : ∀ n, k ≤ n → nth (F n) i = nth (F k) i ∧ i < (F n).length
 | 0, h => by
  have : k = 0 := by omega
  subst this; exact ⟨rfl, hi⟩
 | n + 1, h => by
  rcases Nat.lt_or_ge k (n + 1) with h1 | h1
  ·obtain ⟨e, hl⟩ := pre_nth hF hi n (by omega)
   obtain ⟨m, hm⟩ := hF n
   rw [hm]
   exact ⟨by rw [nth_app hl, e], by simp; omega⟩
  ·have : k = n + 1 := by omega
   subst this; exact ⟨rfl, hi⟩
section
variable {l : List (Int × Int × Int)} {o : List Int} {s a d : Int} {bs zs : List Int}
theorem gZs_pre {k i n : Nat} (hi : i < k) (hn : k ≤ n) : nth (gZs s a d l n) i = nth (gZs s a d l k) i :=
 (pre_nth (F := gZs s a d l) (fun k => ⟨_, rfl⟩) (by rw [gZs_len]; exact hi) n hn).1
theorem gZs_at {k n : Nat} (hn : k < n) : nth (gZs s a d l n) k = zNew s a d (gZs s a d l k) (gAt l k) k := by
 rw [gZs_pre (k := k + 1) (by omega) hn, gZs]
 exact nth_end (gZs_len s a d l k)
theorem cstL_at {k n : Nat} (hn : k < n) (hg : (gAt l k).1 = 2) : nth (cstL d zs l n) (cntG l 2 k) = labelFor (nth zs k) d (gAt l k).2.1 := by
 have hs : cstL d zs l (k + 1) = cstL d zs l k ++ [labelFor (nth zs k) d (gAt l k).2.1] := by rw [cstL, if_pos hg]
 have h := (pre_nth (F := cstL d zs l) (fun k => ⟨_, rfl⟩) (k := k + 1) (i := cntG l 2 k) (by rw [hs, List.length_append, cstL_len]; simp) n hn).1
 rw [h, hs]
 exact nth_end (cstL_len d zs l k)
theorem gTs_at {k n : Nat} (hn : k < n) (hg : (gAt l k).1 = 4) :
  nth (gTs s a d l n) (2 * cntG l 4 k) = tabG d (nth (gZs s a d l k) (gAt l k).2.1.toNat) (nth (gZs s a d l k) (gAt l k).2.2.toNat) k ∧
  nth (gTs s a d l n) (2 * cntG l 4 k + 1) = tabE d (nth (gZs s a d l k) (gAt l k).2.1.toNat) (nth (gZs s a d l k) (gAt l k).2.2.toNat) k := by
 have hs : gTs s a d l (k + 1) = gTs s a d l k ++ [tabG d (nth (gZs s a d l k) (gAt l k).2.1.toNat) (nth (gZs s a d l k) (gAt l k).2.2.toNat) k, tabE d (nth (gZs s a d l k) (gAt l k).2.1.toNat) (nth (gZs s a d l k) (gAt l k).2.2.toNat) k] := by rw [gTs, if_pos hg]
 have hl := gTs_len s a d l k
 have h1 := (pre_nth (F := gTs s a d l) (fun k => ⟨_, rfl⟩) (k := k + 1) (i := 2 * cntG l 4 k) (by rw [hs, List.length_append, hl]; simp) n hn).1
 have h2 := (pre_nth (F := gTs s a d l) (fun k => ⟨_, rfl⟩) (k := k + 1) (i := 2 * cntG l 4 k + 1) (by rw [hs, List.length_append, hl]; simp) n hn).1
 rw [h1, h2, hs]
 exact ⟨nth_end hl, nth_end2 hl⟩
theorem and_bits {x y : Int} (hx : x = 0 ∨ x = 1) (hy : y = 0 ∨ y = 1) : bits .and .i64 x y = x * y := by
 rcases hx with rfl | rfl <;> rcases hy with rfl | rfl <;> decide
theorem xor_bits {x y : Int} (hx : x = 0 ∨ x = 1) (hy : y = 0 ∨ y = 1) : bits .xor .i64 x y = 0 ∨ bits .xor .i64 x y = 1 := by
 rcases hx with rfl | rfl <;> rcases hy with rfl | rfl <;> decide
theorem bit_of {bs : List Int} (h : allBit bs = true) {m : Nat} (hm : m < bs.length) : nth bs m = 0 ∨ nth bs m = 1 := by
 have := inB_iff.1 (all_nth h hm); omega
/-- The wires. -/
theorem wires_right (hg : garbOk l o s a = true) (hb : bitsOk bs 80 = true) : ∀ k, k ≤ l.length → ∀ i, i < k →
  nth (eXs (inLab s a bs) (cstL (deltaOf s a) (gZs s a (deltaOf s a) l l.length) l l.length) (gTs s a (deltaOf s a) l l.length) l k) i = labelFor (nth (gZs s a (deltaOf s a) l k) i) (deltaOf s a) (nth (vXs bs l k) i) ∧ (nth (vXs bs l k) i = 0 ∨ nth (vXs bs l k) i = 1)
 | 0, _ => fun i hi => absurd hi (by omega)
 | k + 1, hk => fun i hi => by
  have ih := wires_right hg hb k (by omega)
  obtain ⟨hc, hd⟩ := and_true_of hg
  have ht := (and_true_of hd).1
  have ld := deltaOf_lab s a
  have ho := deltaOf_odd hd
  have h6 := circ_len hc
  obtain ⟨b1, b2⟩ := bits80 hb
  generalize hdd : deltaOf s a = d at *
  have iz := gZs_lab hc ht ld k (by omega)
  have lz := gZs_len s a d l k
  have lv := vXs_len bs l k
  have le := eXs_len (inLab s a bs) (cstL d (gZs s a d l l.length) l l.length) (gTs s a d l l.length) l k
  rcases Nat.lt_or_ge i k with hik | hik
  ·rw [eXs, gZs, vXs, nth_app (by omega), nth_app (by omega), nth_app (by omega)]
   exact ih i hik
  have hie : i = k := by omega
  subst hie
  rw [eXs, gZs, vXs, nth_end le, nth_end lz, nth_end lv]
  have zat : ∀ m, m < i → lab (nth (gZs s a d l i) m) = true := fun m hm => all_nth iz (by omega)
  rcases gate_cases hc (show i < l.length by omega) with ⟨m, hgt, hm⟩ | ⟨m, hgt, hm⟩ | ⟨m, j, hgt, hm, hj⟩ | ⟨m, j, hgt, hm, hj⟩ | ⟨m, hgt, hm⟩
  ·rw [xNew, zNew, vNew, hgt]
   show nth (inLab s a bs) m = labelFor (inputZero s a (m : Int)) d (nth bs m) ∧ (nth bs m = 0 ∨ nth bs m = 1)
   rw [inLab_yes (inOk_of hd hb), genL_nth (by omega), inF, hdd]
   exact ⟨rfl, bit_of b1 (by omega)⟩
  ·have hz : nth (gZs s a d l l.length) i = inputZero s a (1000 + (i : Int)) := by rw [gZs_at (by omega), zNew, hgt]; rfl
   have hx := cstL_at (d := d) (zs := gZs s a d l l.length) (l := l) (n := l.length) (k := i) (by omega) (by rw [hgt])
   rw [xNew, zNew, vNew, hgt]
   show nth (cstL d (gZs s a d l l.length) l l.length) (cntG l 2 i) = labelFor (inputZero s a (1000 + (i : Int))) d (m : Int) ∧ ((m : Int) = 0 ∨ (m : Int) = 1)
   rw [hx, hz, hgt]
   exact ⟨rfl, by omega⟩
  ·obtain ⟨e1, v1⟩ := ih m hm
   obtain ⟨e2, v2⟩ := ih j hj
   rw [xNew, zNew, vNew, hgt]
   show xo (nth _ m) (nth _ j) = labelFor (xo (nth (gZs s a d l i) m) (nth (gZs s a d l i) j)) d (bits .xor .i64 (nth (vXs bs l i) m) (nth (vXs bs l i) j)) ∧ _
   rw [e1, e2]
   exact ⟨xor_labels ld (zat m hm) (zat j hj) v1 v2, xor_bits v1 v2⟩
  ·obtain ⟨e1, v1⟩ := ih m hm
   obtain ⟨e2, v2⟩ := ih j hj
   obtain ⟨t1, t2⟩ := gTs_at (s := s) (a := a) (d := d) (l := l) (n := l.length) (k := i) (by omega) (by rw [hgt])
   rw [hgt] at t1 t2
   rw [xNew, zNew, vNew, hgt]
   show evAnd (nth _ m) (nth _ j) (nth (gTs s a d l l.length) (2 * cntG l 4 i)) (nth (gTs s a d l l.length) (2 * cntG l 4 i + 1)) (i : Int) = labelFor (andZ d (nth (gZs s a d l i) m) (nth (gZs s a d l i) j) (i : Int)) d (bits .and .i64 (nth (vXs bs l i) m) (nth (vXs bs l i) j)) ∧ (bits .and .i64 (nth (vXs bs l i) m) (nth (vXs bs l i) j) = 0 ∨ bits .and .i64 (nth (vXs bs l i) m) (nth (vXs bs l i) j) = 1)
   rw [e1, e2, t1, t2, and_bits v1 v2]
   refine ⟨half_gate (by omega) ld ho (zat m hm) (zat j hj) v1 v2, ?_⟩
   rcases v1 with e | e <;> rcases v2 with e' | e' <;> rw [e, e'] <;> simp
  ·obtain ⟨e1, v1⟩ := ih m hm
   rw [xNew, zNew, vNew, hgt]
   show nth _ m = labelFor (xo (nth (gZs s a d l i) m) d) d (1 - nth (vXs bs l i) m) ∧ (1 - nth (vXs bs l i) m = 0 ∨ 1 - nth (vXs bs l i) m = 1)
   rw [e1]
   exact ⟨not_label ld (zat m hm) v1, by omega⟩
theorem decode_one {z d v : Int} (hz : lab z = true) (ld : lab d = true) (ho : d % 2 = 1) (hv : v = 0 ∨ v = 1) : bits .xor .i64 (bits .and .i64 (labelFor z d v) 1) (bits .and .i64 z 1) = v := by
 have iv : inB v 0 1 = true := inB_iff.2 (by omega)
 have h1 := bit0_lab (labelFor_lab hz ld iv)
 have h2 := bit0_lab hz
 unfold bit0 at h1 h2
 rw [h1, h2, labelFor_xl hz ld hv]
 have z0 := (lab_iff.1 hz).1
 have d0 := (lab_iff.1 ld).1
 rcases hv with rfl | rfl
 ·simp only [Int.zero_mul, xl_zero z0]
  rcases (show z % 2 = 0 ∨ z % 2 = 1 by omega) with e | e <;> rw [e] <;> decide
 ·rw [Int.one_mul, xl_mod2 z0 d0, ho]
  rcases (show z % 2 = 0 ∨ z % 2 = 1 by omega) with e | e <;> rw [e] <;> decide
/-- What evaluating the circuit with bits gives. -/
def ecOk (l : List (Int × Int × Int)) (o bs : List Int) : Bool := circOk l o && bitsOk bs 80
def ewL (l : List (Int × Int × Int)) (o bs : List Int) : List Int := if ecOk l o bs then vXs bs l l.length else []
def ecL (l : List (Int × Int × Int)) (o bs : List Int) : List Int := if ecOk l o bs then genL (outF o (vXs bs l l.length)) o.length else []
theorem ewL_yes (h : ecOk l o bs = true) : ewL l o bs = vXs bs l l.length := by simp [ewL, h]
theorem ewL_no (h : ecOk l o bs = false) : ewL l o bs = [] := by simp [ewL, h]
theorem ecL_yes (h : ecOk l o bs = true) : ecL l o bs = genL (outF o (vXs bs l l.length)) o.length := by simp [ecL, h]
theorem ecL_no (h : ecOk l o bs = false) : ecL l o bs = [] := by simp [ecL, h]
theorem ewL_len (l : List (Int × Int × Int)) (o bs : List Int) : (ewL l o bs).length ≤ l.length := by unfold ewL; split <;> simp [vXs_len]
theorem ecL_len (l : List (Int × Int × Int)) (o bs : List Int) : (ecL l o bs).length ≤ o.length := by unfold ecL; split <;> simp [genL_len]
theorem rg_wires (h : rgOk l o s a bs = true) : rgW l o s a bs = eXs (inLab s a bs) (cstL (deltaOf s a) (gZs s a (deltaOf s a) l l.length) l l.length) (gTs s a (deltaOf s a) l l.length) l l.length := by
 have hg := (and_true_of h).1
 have hb := gar_gb hg
 rw [rgW, evL_yes (rg_ev h), puT_yes hb, puC_yes hb, garD_yes hg, garZ_yes hg, garT_yes hg]
theorem run_right (h : rgOk l o s a bs = true) : rgL l o s a bs = ecL l o bs := by
 obtain ⟨hg, hb⟩ := and_true_of h
 obtain ⟨hc, hd⟩ := and_true_of hg
 have he : ecOk l o bs = true := by rw [ecOk, hc, hb]; rfl
 have hgb := gar_gb hg
 rw [rgL_yes h, decO_yes (rg_dec h), ecL_yes he, rg_wires h]
 refine genL_congr fun k hk => ?_
 obtain ⟨m, hm, hml⟩ := circ_out hc hk
 have hw := wires_right hg hb l.length (Nat.le_refl _) m hml
 have hp : nth (puD l o (garD l o s a) (garZ l o s a) (garT l o s a)) k = bits .and .i64 (nth (gZs s a (deltaOf s a) l l.length) m) 1 := by
  rw [puD_yes hgb, genL_nth hk, pdF, hm, garZ_yes hg]; rfl
 rw [decF, hp, outF, hm]
 show bits .xor .i64 (bits .and .i64 (nth _ m) 1) _ = nth _ m
 rw [hw.1]
 exact decode_one (all_nth (gZs_lab hc (and_true_of hd).1 (deltaOf_lab s a) _ (Nat.le_refl _)) (by rw [gZs_len]; exact hml)) (deltaOf_lab s a) (deltaOf_odd hd) hw.2
end
end Go.Proofs.Ytodnahpegecpiaa

/- What the extension's functions answer on honest rows and on a mixed mask. No program is named here. -/
import Derived.Test.YtakmgghjpompoaaCountPass
import Derived.Test.YtakmgghjpompoaaMulAlg
import Derived.Test.YtakmgghjpompoaaExtMask
import Derived.Test.YtakmgghjpompoaaExtRows
import Derived.Test.YtakmgghjpompoaaHash
namespace Go.Proofs.Ytakmgghjpompoaa
set_option linter.unusedSimpArgs false
set_option linter.unusedVariables false
/-- The exclusive or of f 0 .. f (k - 1). -/
def sN (f : Nat → Nat) : Nat → Nat
  | 0 => 0
  | k + 1 => sN f k ^^^ f k
theorem sN_lt {f : Nat → Nat} : ∀ {k}, (∀ j < k, f j < 256) → sN f k < 256
  | 0, _ => by simp [sN]
  | k + 1, h => xor_lt256 (sN_lt fun j hj => h j (by omega)) (h k (by omega))
theorem sN_xor (f g : Nat → Nat) : ∀ k, sN (fun j => f j ^^^ g j) k = sN f k ^^^ sN g k
  | 0 => by simp [sN]
  | k + 1 => by
    show sN (fun j => f j ^^^ g j) k ^^^ (f k ^^^ g k) = (sN f k ^^^ f k) ^^^ (sN g k ^^^ g k)
    rw [sN_xor f g k, xor_four]
theorem sN_congr {f g : Nat → Nat} : ∀ {k}, (∀ j < k, f j = g j) → sN f k = sN g k
  | 0, _ => rfl
  | k + 1, h => by unfold sN; rw [sN_congr fun j hj => h j (by omega), h k (by omega)]
theorem sN_zero {f : Nat → Nat} : ∀ {k}, (∀ j < k, f j = 0) → sN f k = 0
  | 0, _ => rfl
  | k + 1, h => by unfold sN; rw [sN_zero fun j hj => h j (by omega), h k (by omega)]; rfl
theorem sN_one {f : Nat → Nat} {i : Nat} : ∀ {k}, i < k → (∀ j < k, j ≠ i → f j = 0) → sN f k = f i
  | k + 1, hi, h => by
    unfold sN
    by_cases e : i = k
    · subst e
      rw [sN_zero fun j hj => h j (by omega) (by omega), Nat.zero_xor]
    · rw [sN_one (by omega) fun j hj => h j (by omega), h k (by omega) (fun x => e x.symm), Nat.xor_zero]
theorem mulN_zero (a : Nat) : mulN a 0 = 0 := mulAcc_zero _ _ _
theorem mulN_sN (s : Nat) (f : Nat → Nat) : ∀ k, mulN s (sN f k) = sN (fun j => mulN s (f j)) k
  | 0 => mulN_zero s
  | k + 1 => by
    show mulN s (sN f k ^^^ f k) = _
    rw [mulN_linB, mulN_sN s f k]; rfl
/-- The j-th number of a list, as a natural number. -/
def nN (l : List Int) (j : Nat) : Nat := (nth l j).toNat
theorem nN_row {l : List Int} (h : allRow l = true) {j : Nat} (hj : j < l.length) : nth l j = (nN l j : Nat) ∧ nN l j < 256 := by
  have := inB_iff.1 (all_nth h hj)
  unfold nN
  exact ⟨by omega, by omega⟩
theorem sumI_N {ws qs : List Int} (hw : allRow ws = true) (hq : allRow qs = true) : ∀ k, k ≤ ws.length → k ≤ qs.length → sumI ws qs k = ((sN (fun j => mulN (nN ws j) (nN qs j)) k : Nat) : Int)
  | 0, _, _ => rfl
  | k + 1, h1, h2 => by
    obtain ⟨e1, l1⟩ := nN_row hw (j := k) (by omega)
    obtain ⟨e2, l2⟩ := nN_row hq (j := k) (by omega)
    rw [sumI, sumI_N hw hq k (by omega) (by omega), e1, e2, mulR_nat l1 l2]
    have b1 := sN_lt (f := fun j => mulN (nN ws j) (nN qs j)) (k := k) fun j hj => mulN_lt (nN_row hw (j := j) (by omega)).2
    have b2 := mulN_lt (b := nN qs k) l1
    exact xorN _ _ (by omega) (by omega)
def chN (ms ws : List Int) (j : Nat) : Nat := if nth ms j != 0 then nN ws j else 0
theorem chN_lt {ms ws : List Int} (hw : allRow ws = true) {j : Nat} (hj : j < ws.length) : chN ms ws j < 256 := by
  have := (nN_row hw hj).2
  unfold chN; split <;> omega
theorem chI_N {ms ws : List Int} (hw : allRow ws = true) : ∀ k, k ≤ ws.length → chI ms ws k = ((sN (chN ms ws) k : Nat) : Int)
  | 0, _ => rfl
  | k + 1, h1 => by
    obtain ⟨e1, l1⟩ := nN_row hw (j := k) (by omega)
    have b1 := sN_lt (f := chN ms ws) (k := k) fun j hj => chN_lt hw (by omega)
    rw [chI, chI_N hw k (by omega)]
    show _ = ((sN (chN ms ws) k ^^^ chN ms ws k : Nat) : Int)
    by_cases h : (nth ms k != 0) = true
    · rw [if_pos h, chN, if_pos h, e1]; exact xorN _ _ (by omega) (by omega)
    · rw [if_neg h, chN, if_neg h, Nat.xor_zero]
/-- The difference of the two sums at a row. -/
def dfN (ws ms : List Int) (s j : Nat) : Nat := mulN (nN ws j) (nN ms j &&& s) ^^^ mulN s (chN ms ws j)
theorem and_lt256 {a b : Nat} (h : a < 256) : a &&& b < 256 := Nat.lt_of_le_of_lt Nat.and_le_left h
theorem sx_N {rs ms : List Int} (hr : allRow rs = true) (hm : allRow ms = true) (s : Nat) (hs : s < 256) {j : Nat} (h1 : j < rs.length) (h2 : j < ms.length) :
    sxI rs ms s j = ((nN rs j ^^^ (nN ms j &&& s) : Nat) : Int) ∧ nN rs j ^^^ (nN ms j &&& s) < 256 := by
  obtain ⟨e1, l1⟩ := nN_row hr h1
  obtain ⟨e2, l2⟩ := nN_row hm h2
  have l3 := and_lt256 (b := s) l2
  rw [sxI, e1, e2, andN _ _ (by omega) (by omega)]
  exact ⟨xorN _ _ (by omega) (by omega), xor_lt256 l1 l3⟩
theorem xor_eq_zero {a b : Nat} : a ^^^ b = 0 ↔ a = b := by
  constructor
  · intro h
    have : a ^^^ b ^^^ b = b := by rw [h, Nat.zero_xor]
    rw [Nat.xor_assoc, Nat.xor_self, Nat.xor_zero] at this
    exact this
  · intro h; subst h; exact Nat.xor_self _
theorem allRow_gen {f : Nat → Int} : ∀ {n}, (∀ j < n, rowB (f j) = true) → allRow (genL f n) = true
  | 0, _ => rfl
  | n + 1, h => by
    rw [genL_snoc, allRow, List.all_append]
    have := allRow_gen (f := f) (n := n) fun j hj => h j (by omega)
    unfold allRow at this
    rw [this]; simp [h n (by omega)]
theorem send_yes {rs ms : List Int} {s n : Nat} (h1 : rs.length = n) (h2 : ms.length = n) (hn : n ≤ 32) (hr : allRow rs = true) (hm : allRow ms = true) (hs : s < 256) :
    extSendL rs ms s = genL (sxI rs ms s) n ∧ allRow (genL (sxI rs ms s) n) = true := by
  have hs2 : rowB (s : Int) = true := inB_iff.2 (by omega)
  have h : sendOk rs ms s = true := by simp [sendOk, h1, h2, hn, hr, hm, hs2]
  refine ⟨by rw [extSend_yes h, h1], allRow_gen fun j hj => ?_⟩
  obtain ⟨e, l⟩ := sx_N hr hm s hs (j := j) (by omega) (by omega)
  rw [e]; exact inB_iff.2 (by omega)
theorem rows_yes {l : List Int} {n : Nat} (h1 : l.length = n) (hn : n ≤ 32) (h : allRow l = true) : rowsOk l (n : Int) = true := by
  subst h1
  simp only [rowsOk, h, Bool.true_and, beq_self_eq_true, decide_eq_true_eq]; omega
theorem pass_iff {ws rs ms : List Int} {n s : Nat} (h1 : ws.length = n) (h2 : rs.length = n) (h3 : ms.length = n) (hn : n ≤ 32) (hw : allRow ws = true) (hr : allRow rs = true) (hm : allRow ms = true) (hs : s < 256) :
    passB ws rs ms s = decide (sN (dfN ws ms s) n = 0) := by
  obtain ⟨es, er⟩ := send_yes h2 h3 hn hr hm hs
  have hs2 : rowB (s : Int) = true := inB_iff.2 (by omega)
  have hl : (genL (sxI rs ms s) n).length = n := genL_len _ _
  have ha : areRowsB [ws, rs, ms, genL (sxI rs ms s) n] = true := by
    rw [areRows_eq h1, rows_yes h1 hn hw, rows_yes h2 hn hr, rows_yes h3 hn hm, rows_yes hl hn er]; rfl
  rw [passB, extCheckB, es, ha, hs2, Bool.true_and, Bool.true_and, sumsEq, h1, sumI_N hw er n (by omega) (by omega), sumI_N hw hr n (by omega) (by omega), chI_N hw n (by omega)]
  have bA := sN_lt (f := fun j => mulN (nN ws j) (nN rs j)) (k := n) fun j hj => mulN_lt (nN_row hw (j := j) (by omega)).2
  have bC := sN_lt (f := chN ms ws) (k := n) fun j hj => chN_lt hw (by omega)
  rw [mulR_nat hs bC]
  have bM := mulN_lt (b := sN (chN ms ws) n) hs
  rw [xorN _ _ (by omega) (by omega)]
  have e1 : sN (fun j => mulN (nN ws j) (nN (genL (sxI rs ms s) n) j)) n = sN (fun j => mulN (nN ws j) (nN rs j)) n ^^^ sN (fun j => mulN (nN ws j) (nN ms j &&& s)) n := by
    rw [← sN_xor]
    refine sN_congr fun j hj => ?_
    obtain ⟨e, l⟩ := sx_N hr hm s hs (j := j) (by omega) (by omega)
    have : nN (genL (sxI rs ms s) n) j = nN rs j ^^^ (nN ms j &&& s) := by
      show (nth _ j).toNat = _
      rw [genL_nth hj, e, Int.toNat_natCast]
    show mulN _ (nN (genL (sxI rs ms s) n) j) = _
    rw [this, mulN_linB]
  have e2 : sN (dfN ws ms s) n = sN (fun j => mulN (nN ws j) (nN ms j &&& s)) n ^^^ mulN s (sN (chN ms ws) n) := by
    rw [mulN_sN, ← sN_xor]; rfl
  rw [e1, e2]
  generalize sN (fun j => mulN (nN ws j) (nN rs j)) n = A
  generalize sN (fun j => mulN (nN ws j) (nN ms j &&& s)) n = B
  generalize mulN s (sN (chN ms ws) n) = C
  rw [Bool.eq_iff_iff, beq_iff_eq, decide_eq_true_eq, xor_eq_zero]
  constructor
  · intro h
    have h' : A ^^^ B = A ^^^ C := by omega
    have : A ^^^ (A ^^^ B) = A ^^^ (A ^^^ C) := by rw [h']
    rw [← Nat.xor_assoc, ← Nat.xor_assoc, Nat.xor_self, Nat.zero_xor, Nat.zero_xor] at this
    exact this
  · intro h; rw [h]
theorem df_honest {ws ms : List Int} {s j : Nat} (hw : allRow ws = true) (hs : s < 256) (hj : j < ws.length) (h : nth ms j = 0 ∨ nth ms j = 255) : dfN ws ms s j = 0 := by
  have l1 := (nN_row hw hj).2
  unfold dfN chN nN
  rcases h with e | e <;> rw [e]
  · show mulN _ (0 &&& s) ^^^ mulN s 0 = 0
    rw [Nat.zero_and, mulN_zero, mulN_zero]; rfl
  · show mulN (nN ws j) (255 &&& s) ^^^ mulN s (nN ws j) = 0
    have : 255 &&& s = s := by rw [Nat.and_comm]; exact (Nat.and_two_pow_sub_one_eq_mod s 8).trans (Nat.mod_eq_of_lt hs)
    rw [this, mulN_comm hs l1, Nat.xor_self]
theorem rows3_yes {ws rs ms : List Int} {n : Nat} (h1 : ws.length = n) (h2 : rs.length = n) (h3 : ms.length = n) (hn : n ≤ 32) (hw : allRow ws = true) (hr : allRow rs = true) (hm : allRow ms = true) : rows3 ws rs ms = true := by
  rw [rows3, h1, rows_yes h1 hn hw, rows_yes h2 hn hr, rows_yes h3 hn hm]; rfl
theorem pass_honest {ws rs ms : List Int} {n : Nat} (h1 : ws.length = n) (h2 : rs.length = n) (h3 : ms.length = n) (hn : n ≤ 32) (hw : allRow ws = true) (hr : allRow rs = true) (hm : allRow ms = true)
    (hh : ∀ j < n, nth ms j = 0 ∨ nth ms j = 255) : countPass ws rs ms = 256 := by
  rw [countPass_yes (rows3_yes h1 h2 h3 hn hw hr hm), cnt_all]
  · rfl
  · intro s hs
    rw [pass_iff h1 h2 h3 hn hw hr hm hs]
    exact decide_eq_true (sN_zero fun j hj => df_honest hw hs (by omega) (hh j hj))
theorem no_divisors : ∀ w < 256, w ≠ 0 → ∀ x < 256, x ≠ 0 → mulN w x ≠ 0 := by decide +kernel
theorem few_masks : ∀ v < 255, v ≠ 0 → cnt (fun s => (v &&& s) == s) 256 ≤ 128 := by decide +kernel
theorem nth_set {l : List Int} {k j : Nat} {v : Int} (hk : k < l.length) : nth (l.set k v) j = if j = k then v else nth l j := by
  unfold nth List.getD
  rw [List.getElem?_set]
  by_cases e : k = j
  · subst e; simp [hk]
  · rw [if_neg e, if_neg (fun x => e x.symm)]
theorem allRow_set {l : List Int} {k : Nat} {v : Int} (h : allRow l = true) (hv : rowB v = true) : allRow (l.set k v) = true := by
  refine List.all_eq_true.2 fun x hx => ?_
  rcases List.mem_or_eq_of_mem_set hx with h1 | h1
  · exact List.all_eq_true.1 h x h1
  · rw [h1]; exact hv
theorem pass_mixed {ws rs ms : List Int} {n k : Nat} {v : Int} (h1 : ws.length = n) (h2 : rs.length = n) (h3 : ms.length = n) (hn : n ≤ 32) (hw : allRow ws = true) (hr : allRow rs = true) (hm : allRow ms = true)
    (hh : ∀ j < n, nth ms j = 0 ∨ nth ms j = 255) (hk : k < n) (v1 : 1 ≤ v) (v2 : v ≤ 254) :
    (nth ws k = 0 → countPass ws rs (ms.set k v) = 256) ∧ (nth ws k ≠ 0 → 2 * countPass ws rs (ms.set k v) ≤ 256) := by
  have hm' : allRow (ms.set k v) = true := allRow_set hm (inB_iff.2 (by omega))
  have h3' : (ms.set k v).length = n := by rw [List.length_set, h3]
  obtain ⟨V, rfl⟩ := Int.eq_ofNat_of_zero_le (show 0 ≤ v by omega)
  have hat (j : Nat) : nth (ms.set k (V : Int)) j = if j = k then (V : Int) else nth ms j := nth_set (by omega)
  obtain ⟨e1, l1⟩ := nN_row hw (j := k) (by omega)
  have key (s : Nat) (hs : s < 256) : passB ws rs (ms.set k (V : Int)) s = decide (mulN (nN ws k) ((V &&& s) ^^^ s) = 0) := by
    rw [pass_iff h1 h2 h3' hn hw hr hm' hs, sN_one hk fun j hj hne => df_honest hw hs (by omega) (by rw [hat, if_neg hne]; exact hh j hj)]
    have : dfN ws (ms.set k (V : Int)) s k = mulN (nN ws k) ((V &&& s) ^^^ s) := by
      unfold dfN chN
      rw [show nN (ms.set k (V : Int)) k = V by unfold nN; rw [hat, if_pos rfl]; rfl, hat, if_pos rfl, if_pos (by simp; omega), mulN_comm hs l1, mulN_linB]
    rw [this]
  rw [countPass_yes (rows3_yes h1 h2 h3' hn hw hr hm')]
  constructor
  · intro h
    rw [cnt_all]
    · rfl
    · intro s hs
      rw [key s hs, show nN ws k = 0 by unfold nN; rw [h]; rfl]
      have b : (V &&& s) ^^^ s < 256 := xor_lt256 (and_lt256 (by omega)) hs
      exact decide_eq_true (by rw [mulN_comm (by omega) b]; exact mulN_zero _)
  · intro h
    have hne : nN ws k ≠ 0 := by intro e; rw [e] at e1; exact h e1
    have b := few_masks V (by omega) (by omega)
    have e : cnt (passB ws rs (ms.set k (V : Int))) 256 ≤ cnt (fun s => (V &&& s) == s) 256 := cnt_mono fun s hs hp => by
      rw [key s hs, decide_eq_true_eq] at hp
      rw [beq_iff_eq]
      refine Decidable.byContradiction fun hx => ?_
      exact no_divisors _ l1 hne ((V &&& s) ^^^ s) (xor_lt256 (and_lt256 (by omega)) hs) (fun hz => hx (xor_eq_zero.1 hz)) hp
    omega
/-- The masks of choices. -/
theorem mask_yes {cs : List Int} {n : Nat} (h1 : cs.length = n) (hn : n ≤ 32) (hc : allBit cs = true) :
    extMaskL cs = times255 cs ∧ (times255 cs).length = n ∧ allRow (times255 cs) = true ∧ (∀ j < n, nth (times255 cs) j = 255 * nth cs j) ∧ (∀ j < n, nth (times255 cs) j = 0 ∨ nth (times255 cs) j = 255) := by
  have hl : (times255 cs).length = n := by simp [times255, h1]
  have hat (j : Nat) (hj : j < n) : nth (times255 cs) j = 255 * nth cs j := nth_map (by omega)
  have hb (j : Nat) (hj : j < n) : nth cs j = 0 ∨ nth cs j = 1 := by
    have := inB_iff.1 (all_nth hc (k := j) (by omega)); omega
  refine ⟨by simp [extMaskL, h1, hn, hc], hl, ?_, hat, fun j hj => ?_⟩
  · refine List.all_eq_true.2 fun x hx => ?_
    obtain ⟨j, hj, rfl⟩ := List.mem_iff_getElem.1 hx
    rw [← nth_lt hj, hat j (by omega)]
    rcases hb j (by omega) with e | e <;> rw [e] <;> rfl
  · rw [hat j hj]
    rcases hb j hj with e | e <;> rw [e] <;> simp
/-- Rows out of a drawn tape. -/
theorem rows_new {s a : Int} {n : Nat} (hs : 0 ≤ s ∧ s ≤ 4294967295) (ha : 0 ≤ a ∧ a ≤ 800000) (hn : n ≤ 32) :
    (extRowsL s a n).length = n ∧ allRow (extRowsL s a n) = true ∧ extRowsN s a n = a + n := by
  have ht : tapeOk s a = true := tapeOk_iff.2 (by omega)
  have h : extRowsOk s a n = true := by
    simp only [extRowsOk, dealOk, ht, inB_iff.2 (show (0 : Int) ≤ n ∧ (n : Int) ≤ 32 by omega), Bool.true_and, decide_eq_true_eq]; omega
  have hl : tListOk s a 256 n = true := tListOk_iff.2 ⟨by omega, by omega, ht, by omega⟩
  rw [(extRows_yes h).1, (extRows_yes h).2, tapeL_yes hl, tapeLN_yes hl]
  refine ⟨by rw [genL_len]; rfl, allRow_gen fun j hj => ?_, rfl⟩
  unfold tapeB
  rw [if_pos (show inB 256 1 65536 = true from rfl)]
  have := Int.emod_nonneg (tapeW s (a + j) / 256) (show (256 : Int) ≠ 0 by omega)
  have := Int.emod_lt_of_pos (tapeW s (a + j) / 256) (show (0 : Int) < 256 by omega)
  exact inB_iff.2 (by omega)
/-- What the receiver's pad is. -/
theorem pad_at {rs cs : List Int} {n s j : Nat} (h1 : rs.length = n) (h2 : cs.length = n) (hn : n ≤ 32) (hr : allRow rs = true) (hc : allBit cs = true) (hs : s < 256) (hj : j < n) :
    (extSendL rs (extMaskL cs) s).length = n ∧ padOk (nth (extSendL rs (extMaskL cs) s) j) s j = true ∧
    ((nth cs j = 0 ∧ pad0 (nth (extSendL rs (extMaskL cs) s) j) s j = hashI (nth rs j) j) ∨ (nth cs j = 1 ∧ pad1 (nth (extSendL rs (extMaskL cs) s) j) s j = hashI (nth rs j) j)) := by
  obtain ⟨em, lm, am, at1, at2⟩ := mask_yes h2 hn hc
  obtain ⟨es, has⟩ := send_yes h1 lm hn hr am hs
  obtain ⟨e, l⟩ := sx_N hr am s hs (j := j) (by omega) (by omega)
  obtain ⟨er, lr⟩ := nN_row hr (j := j) (by omega)
  rw [em, es, genL_nth hj]
  have hp : padOk (sxI rs (times255 cs) s j) s j = true := by
    rw [e]
    simp only [padOk, show rowB ((nN rs j ^^^ (nN (times255 cs) j &&& s) : Nat) : Int) = true from inB_iff.2 (by omega), show rowB (s : Int) = true from inB_iff.2 (by omega), show inB (j : Int) 0 32 = true from inB_iff.2 (by omega), Bool.true_and]
  refine ⟨genL_len _ _, hp, ?_⟩
  have hb : nth cs j = 0 ∨ nth cs j = 1 := by
    have := inB_iff.1 (all_nth hc (k := j) (by omega)); omega
  rcases hb with c0 | c1
  · left
    have hm : nN (times255 cs) j = 0 := by unfold nN; rw [at1 j hj, c0]; rfl
    refine ⟨c0, ?_⟩
    rw [pad0, if_pos hp, e, hm, Nat.zero_and, Nat.xor_zero, er]
  · right
    have hm : nN (times255 cs) j = 255 := by unfold nN; rw [at1 j hj, c1]; rfl
    have h5 : 255 &&& s = s := by rw [Nat.and_comm]; exact (Nat.and_two_pow_sub_one_eq_mod s 8).trans (Nat.mod_eq_of_lt hs)
    refine ⟨c1, ?_⟩
    rw [hm, h5] at e l
    rw [pad1, if_pos hp, e, xorN _ _ (by omega) (by omega), Nat.xor_assoc, Nat.xor_self, Nat.xor_zero, er]
end Go.Proofs.Ytakmgghjpompoaa

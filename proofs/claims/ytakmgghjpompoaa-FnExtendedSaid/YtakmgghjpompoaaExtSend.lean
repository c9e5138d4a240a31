/- Contracts of ExtSend, the program's and the reference's. -/
import Derived.Test.YtakmgghjpompoaaMul
import Derived.Test.YtakmgghjpompoaaGen
import Derived.Test.YtakmgghjpompoaaOwnStep
namespace Go.Proofs.Ytakmgghjpompoaa
set_option linter.unusedSimpArgs false
set_option linter.unusedVariables false
open Go.RowKit
def sxI (rows masks : List Int) (s : Int) (j : Nat) : Int := bits .xor .i64 (nth rows j) (bits .and .i64 (nth masks j) s)
def sendOk (rows masks : List Int) (s : Int) : Bool := decide (rows.length = masks.length) && decide (rows.length ≤ 32) && rowB s && allRow rows && allRow masks
/-- What a sender computes. -/
def extSendL (rows masks : List Int) (s : Int) : List Int := if sendOk rows masks s then genL (sxI rows masks s) rows.length else []
theorem extSend_no {rows masks : List Int} {s : Int} (h : sendOk rows masks s = false) : extSendL rows masks s = [] := by simp [extSendL, h]
theorem extSend_yes {rows masks : List Int} {s : Int} (h : sendOk rows masks s = true) : extSendL rows masks s = genL (sxI rows masks s) rows.length := by simp [extSendL, h]
theorem extSend_len (rows masks : List Int) (s : Int) : (extSendL rows masks s).length ≤ 32 := by
  unfold extSendL
  split
  · rename_i h
    simp only [sendOk, Bool.and_eq_true, decide_eq_true_eq] at h
    rw [genL_len]; omega
  · simp
def rowsOk (l : List Int) (n : Int) : Bool := allRow l && ((l.length : Int) == n) && decide (n ≤ 32)
set_option maxRecDepth 100000 in
theorem l22Rows_any (A : Option Addr) (n c : Nat) (l : List Int) (m : Int) (w : World) (h : Ints w A n l) (hn : n ≤ 1099511627776) :
    Calls Try.prog 80 #[.slice A n c, .int .i64 m] w fun e w' => e = .returned (.bool (rowsOk l m)) ∧ w = w' := by
  have hl := Lib.hid h.len
  go_enter Try.func80, Try.ntmps80
  go_wp2
  go_loop [5] (fun i => ∃ k : Nat, k ≤ n ∧ i = .int .i64 k ∧ (l.take k).all rowB = true) (fun i => n - (intOf i).toNat)
  case atStart => exact ⟨0, Nat.zero_le _, rfl, rfl⟩
  case round =>
    obtain ⟨k, hk, rfl, hall⟩ := hrel
    have H := Lib.hid hall
    clear hall
    by_cases hlt : k < n
    · obtain ⟨g, o, rfl, hg, hc⟩ := h.block (by omega)
      have hck := hc k hlt
      clear hc
      go_wp2_with (go_at_call 73; refine (l22Row_any _ _).mono ?_; rintro e w' ⟨rfl, rfl⟩)
      · go_ret
        have hno : allRow l = false := all_not (by rw [hl.out]; omega) (by simpa using ‹(!rowB (nth l k)) = true›)
        exact ⟨ret_bool (by simp [rowsOk, hno]), rfl⟩
      · have ht : rowB (nth l k) = true := by simpa using ‹(!rowB (nth l k)) = false›
        go_round
        case rel => exact ⟨k + 1, by omega, by go_num, all_snoc (by rw [hl.out]; omega) H.out ht⟩
        case measure => simp [intOf]; omega
    · have hy : allRow l = true := all_done (by rw [hl.out]; omega) H.out
      have hy2 := Lib.hid hy
      clear hy
      go_wp2
      all_goals (go_ret; go_tidy; exact ⟨ret_bool (by simp_all [rowsOk, hy2.out, hl.out]), rfl⟩)
set_option maxRecDepth 100000 in
theorem iExtSend_any (A B : Option Addr) (n m c d : Nat) (l1 l2 : List Int) (s : Int) (w : World) (h1 : Ints w A n l1) (h2 : Ints w B m l2) (hn : n ≤ 1048576) (hm : m ≤ 1048576) :
    Calls Try.prog 54 #[.slice A n c, .slice B m d, .int .i64 s] w fun e w' => ∃ v, e = .returned v ∧ Own w' w.heap.size v (extSendL l1 l2 s) ∧ Below w.heap.size w w' := by
  have hl1 := Lib.hid h1.len
  have hl2 := Lib.hid h2.len
  by_cases hok : sendOk l1 l2 s = true
  · have hx := Lib.hid (extSend_yes hok)
    have hk := hok
    simp only [sendOk, Bool.and_eq_true, decide_eq_true_eq] at hk
    obtain ⟨⟨⟨⟨k1, k2⟩, k3⟩, k4⟩, k5⟩ := hk
    rw [hl1.out, hl2.out] at k1
    rw [hl1.out] at k2
    subst k1
    have hs1 : allRow [s] = true := by simp [allRow, k3]
    have hn32 : (n : Int) ≤ 32 := by omega
    clear hok
    go_enter Try.func54, Try.ntmps54
    go_wp2_with fail
    refine (isRow_any _ 1 _ [s] _ (Ints.new _ [s] _ rfl rfl) (by omega)).mono ?_
    rintro e w' ⟨rfl, rfl⟩
    go_wp2_with fail
    refine (isRow_any _ n _ l1 _ (h1.alloc _) (by omega)).mono ?_
    rintro e w' ⟨rfl, rfl⟩
    go_wp2_with fail
    refine (isRow_any _ n _ l2 _ (h2.alloc _) (by omega)).mono ?_
    rintro e w' ⟨rfl, rfl⟩
    go_wp2_with fail
    go_loopw [7, 39] (fun v i wr => ∃ k : Nat, k ≤ n ∧ i = .int .i64 k ∧ Own wr w.heap.size v (genL (sxI l1 l2 s) k) ∧ Below w.heap.size w wr) (fun _ i _ => n - (intOf i).toNat)
    case atStart => exact ⟨0, by omega, rfl, Own.empty (by simp) (by simp), ((Below.refl _ _).alloc (Nat.le_refl _) _).alloc (by simp) _⟩
    case round =>
      obtain ⟨k, hk, rfl, hown, hbr⟩ := hrel
      by_cases hlt : k < n
      · obtain ⟨g, o, rfl, hg, hc⟩ := h1.block (by omega)
        obtain ⟨g2, o2, rfl, hg2, hc2⟩ := h2.block (by omega)
        have hck : wr.cell? ⟨g, o + k, none⟩ = some (.int .i64 (nth l1 k)) := (hbr.cell hg).trans (hc k hlt)
        have hck2 : wr.cell? ⟨g2, o2 + k, none⟩ = some (.int .i64 (nth l2 k)) := (hbr.cell hg2).trans (hc2 k hlt)
        have hsn := Lib.hid (genL_snoc (sxI l1 l2 s) k)
        have htl := genL_len (sxI l1 l2 s) k
        have hzr := hbr.size
        clear hc hc2
        go_wp2_with (at_builtin; go_must (refine append_int rfl _ _ rfl w.heap.size u7 (genL (sxI l1 l2 s) k) (sxI l1 l2 s k) wr.heap.size rfl rfl hown rfl (by omega) (by omega) ?_); intro v' w3 hown3 hg3)
        have hB3 := hown.belowBase (by omega) hg3
        go_roundw
        case rel => exact ⟨k + 1, by omega, by go_num, by rw [hsn.out]; exact hown3, hbr.trans hB3⟩
        case measure => simp [intOf]; omega
      · go_wp2
        go_ret
        exact ⟨_, rfl, by rw [hx.out, hl1.out, show n = k by omega]; exact hown, hbr⟩
  · have hx := Lib.hid (extSend_no (by simpa using hok))
    have hno : sendOk l1 l2 s = false := by simpa using hok
    clear hok
    by_cases k1 : n = m
    · subst k1
      by_cases k2 : (n : Int) ≤ 32
      · by_cases k3 : rowB s = true
        · have hs1 : allRow [s] = true := by simp [allRow, k3]
          by_cases k4 : allRow l1 = true
          · have k5 : allRow l2 = false := by
              have k2' : n ≤ 32 := by omega
              simpa [sendOk, hl1.out, hl2.out, k2', k3, k4] using hno
            clear hno
            go_enter Try.func54, Try.ntmps54
            go_wp2_with fail
            refine (isRow_any _ 1 _ [s] _ (Ints.new _ [s] _ rfl rfl) (by omega)).mono ?_
            rintro e w' ⟨rfl, rfl⟩
            go_wp2_with fail
            refine (isRow_any _ n _ l1 _ (h1.alloc _) (by omega)).mono ?_
            rintro e w' ⟨rfl, rfl⟩
            go_wp2_with fail
            refine (isRow_any _ n _ l2 _ (h2.alloc _) (by omega)).mono ?_
            rintro e w' ⟨rfl, rfl⟩
            go_wp2_with fail
            go_ret
            exact ⟨_, rfl, by rw [hx.out]; exact Own.nil, (Below.refl _ _).alloc (Nat.le_refl _) _⟩
          · have k4' : allRow l1 = false := by simpa using k4
            clear hno k4
            go_enter Try.func54, Try.ntmps54
            go_wp2_with fail
            refine (isRow_any _ 1 _ [s] _ (Ints.new _ [s] _ rfl rfl) (by omega)).mono ?_
            rintro e w' ⟨rfl, rfl⟩
            go_wp2_with fail
            refine (isRow_any _ n _ l1 _ (h1.alloc _) (by omega)).mono ?_
            rintro e w' ⟨rfl, rfl⟩
            go_wp2_with fail
            go_ret
            exact ⟨_, rfl, by rw [hx.out]; exact Own.nil, (Below.refl _ _).alloc (Nat.le_refl _) _⟩
        · have hs1 : allRow [s] = false := by simpa [allRow] using k3
          clear hno k3
          go_enter Try.func54, Try.ntmps54
          go_wp2_with fail
          refine (isRow_any _ 1 _ [s] _ (Ints.new _ [s] _ rfl rfl) (by omega)).mono ?_
          rintro e w' ⟨rfl, rfl⟩
          go_wp2_with fail
          go_ret
          exact ⟨_, rfl, by rw [hx.out]; exact Own.nil, (Below.refl _ _).alloc (Nat.le_refl _) _⟩
      · clear hno
        go_enter Try.func54, Try.ntmps54
        go_wp2_with fail
        go_ret
        exact ⟨_, rfl, by rw [hx.out]; exact Own.nil, Below.refl _ _⟩
    · have k1' : ((n : Int) != m) = true := by simpa using (fun h => k1 (by omega))
      clear hno
      go_enter Try.func54, Try.ntmps54
      go_wp2_with fail
      go_ret
      exact ⟨_, rfl, by rw [hx.out]; exact Own.nil, Below.refl _ _⟩
theorem send_parts {l1 l2 : List Int} {s : Int} {n m : Nat} (h1 : l1.length = n) (h2 : l2.length = m) (h : sendOk l1 l2 s = true) : rowsOk l1 (m : Int) = true ∧ rowsOk l2 (n : Int) = true ∧ rowB s = true := by
  simp only [sendOk, Bool.and_eq_true, decide_eq_true_eq] at h
  obtain ⟨⟨⟨⟨k1, k2⟩, k3⟩, k4⟩, k5⟩ := h
  rw [h1, h2] at k1
  rw [h1] at k2
  subst k1
  simp [rowsOk, k3, k4, k5, h1, h2]
  omega
theorem send_all {l1 l2 : List Int} {s : Int} {n m : Nat} (h1 : l1.length = n) (h2 : l2.length = m) (b1 : rowsOk l1 (m : Int) = true) (b2 : rowsOk l2 (n : Int) = true) (b3 : rowB s = true) : sendOk l1 l2 s = true ∧ n = m ∧ n ≤ 32 := by
  simp only [rowsOk, Bool.and_eq_true, decide_eq_true_eq, beq_iff_eq] at b1 b2
  obtain ⟨⟨p1, p2⟩, p3⟩ := b1
  obtain ⟨⟨q1, q2⟩, q3⟩ := b2
  have e1 : n = m := by omega
  have e2 : n ≤ 32 := by omega
  refine ⟨?_, e1, e2⟩
  simp [sendOk, h1, h2, p1, q1, b3, e1]
  omega
set_option maxRecDepth 100000 in
theorem sExtSend_any (A B : Option Addr) (n m c d : Nat) (l1 l2 : List Int) (s : Int) (w : World) (h1 : Ints w A n l1) (h2 : Ints w B m l2) (hn : n ≤ 1048576) (hm : m ≤ 1048576) :
    Calls Try.prog 53 #[.slice A n c, .slice B m d, .int .i64 s] w fun e w' => ∃ v, e = .returned v ∧ Own w' w.heap.size v (extSendL l1 l2 s) ∧ Below w.heap.size w w' := by
  have hl1 := Lib.hid h1.len
  have hl2 := Lib.hid h2.len
  by_cases h0 : n = 0
  · subst h0
    have hx : Hid (extSendL l1 l2 s = []) := by
      show extSendL l1 l2 s = []
      unfold extSendL
      rw [hl1.out]
      split <;> rfl
    go_enter Try.func53, Try.ntmps53
    go_wp2_with fail
    refine wp_loop_rounds 1 ?_
    rw [rounds_succ]
    go_wp2
    go_ret
    exact ⟨_, rfl, by rw [hx.out]; exact Own.empty (Nat.le_refl _) rfl, (Below.refl _ _).alloc (Nat.le_refl _) _⟩
  have hn0 : 0 < n := by omega
  by_cases b1 : rowsOk l1 (m : Int) = true
  · by_cases b2 : rowsOk l2 (n : Int) = true
    · by_cases b3 : rowB s = true
      · obtain ⟨hok, hnm, h32⟩ := send_all hl1.out hl2.out b1 b2 b3
        have hx := Lib.hid (extSend_yes hok)
        subst hnm
        clear hok
        go_enter Try.func53, Try.ntmps53
        go_wp2_with fail
        go_loopw [7, 8] (fun v i wr => ∃ k : Nat, k ≤ n ∧ i = .int .i64 k ∧ Own wr w.heap.size v (genL (sxI l1 l2 s) k) ∧ Below w.heap.size w wr) (fun _ i _ => n - (intOf i).toNat)
        case atStart => exact ⟨0, by omega, rfl, Own.empty (Nat.le_refl _) rfl, (Below.refl _ _).alloc (Nat.le_refl _) _⟩
        case round =>
          obtain ⟨k, hk, rfl, hown, hbr⟩ := hrel
          by_cases hlt : k < n
          · have hI1 := h1.below hbr
            have hI2 := h2.below hbr
            obtain ⟨g, o, rfl, hg, hc⟩ := h1.block (by omega)
            obtain ⟨g2, o2, rfl, hg2, hc2⟩ := h2.block (by omega)
            have hck : wr.cell? ⟨g, o + k, none⟩ = some (.int .i64 (nth l1 k)) := (hbr.cell hg).trans (hc k hlt)
            have hck2 : wr.cell? ⟨g2, o2 + k, none⟩ = some (.int .i64 (nth l2 k)) := (hbr.cell hg2).trans (hc2 k hlt)
            have hsn := Lib.hid (genL_snoc (sxI l1 l2 s) k)
            have htl := genL_len (sxI l1 l2 s) k
            have hzr := hbr.size
            clear hc hc2
            go_wp2_with fail
            refine (l22Rows_any _ n _ l1 _ _ hI1 (by omega)).mono ?_
            rintro e w' ⟨rfl, rfl⟩
            go_wp2_with fail
            refine (l22Rows_any _ n _ l2 _ _ hI2 (by omega)).mono ?_
            rintro e w' ⟨rfl, rfl⟩
            go_wp2_with fail
            refine (l22Row_any _ _).mono ?_
            rintro e w' ⟨rfl, rfl⟩
            go_wp2_with fail
            have hi0 : (0 : Int) ≤ (k : Int) := Int.natCast_nonneg _
            have hi1 : (k : Int) < (n : Int) := by omega
            go_region_held3 (fun W => W.cell? ⟨g, o + k, none⟩ = some (.int .i64 (nth l1 k)) ∧ W.cell? ⟨g2, o2 + k, none⟩ = some (.int .i64 (nth l2 k)))
              (first | go_keep | exact ⟨((hown.belowBase hzr (grown_new_drew hg3)).cell (p := ⟨g, o + k, none⟩) hg).trans hck, ((hown.belowBase hzr (grown_new_drew hg3)).cell (p := ⟨g2, o2 + k, none⟩) hg2).trans hck2⟩)
              ((refine step_append_int rfl _ _ rfl w.heap.size u7 (genL (sxI l1 l2 s) k) (sxI l1 l2 s k) wr.heap.size rfl rfl (cell_new_drew rfl) (hown.alloc _).drew (by omega) (le_new_drew hzr) ?_; intro v' w3 hown3 hg3))
            go_wp2_with fail
            have hB3 := hown.belowBase hzr (grown_new_drew hg3)
            go_roundw
            case rel => exact ⟨k + 1, by omega, by go_num, by rw [hsn.out]; exact hown3, hbr.trans hB3⟩
            case measure => simp [intOf]; omega
          · go_wp2
            go_ret
            exact ⟨_, rfl, by rw [hx.out, hl1.out, show n = k by omega]; exact hown, hbr⟩
      · have b3' : rowB s = false := by simpa using b3
        have hno : sendOk l1 l2 s = false := by
          cases hq : sendOk l1 l2 s with
          | false => rfl
          | true => exact absurd (send_parts hl1.out hl2.out hq).2.2 (by simp [b3'])
        have hx := Lib.hid (extSend_no hno)
        clear hno
        clear b3
        go_enter Try.func53, Try.ntmps53
        go_wp2_with fail
        refine wp_loop_rounds 1 ?_
        rw [rounds_succ]
        go_wp2_with fail
        refine (l22Rows_any _ n _ l1 _ _ (h1.alloc _) (by omega)).mono ?_
        rintro e w' ⟨rfl, rfl⟩
        go_wp2_with fail
        refine (l22Rows_any _ m _ l2 _ _ (h2.alloc _) (by omega)).mono ?_
        rintro e w' ⟨rfl, rfl⟩
        go_wp2_with fail
        refine (l22Row_any _ _).mono ?_
        rintro e w' ⟨rfl, rfl⟩
        go_wp2
        go_ret
        exact ⟨_, rfl, by rw [hx.out]; exact Own.empty (Nat.le_refl _) rfl, (Below.refl _ _).alloc (Nat.le_refl _) _⟩
    · have b2' : rowsOk l2 (n : Int) = false := by simpa using b2
      have hno : sendOk l1 l2 s = false := by
        cases hq : sendOk l1 l2 s with
        | false => rfl
        | true => exact absurd (send_parts hl1.out hl2.out hq).2.1 (by simp [b2'])
      have hx := Lib.hid (extSend_no hno)
      clear hno
      clear b2
      go_enter Try.func53, Try.ntmps53
      go_wp2_with fail
      refine wp_loop_rounds 1 ?_
      rw [rounds_succ]
      go_wp2_with fail
      refine (l22Rows_any _ n _ l1 _ _ (h1.alloc _) (by omega)).mono ?_
      rintro e w' ⟨rfl, rfl⟩
      go_wp2_with fail
      refine (l22Rows_any _ m _ l2 _ _ (h2.alloc _) (by omega)).mono ?_
      rintro e w' ⟨rfl, rfl⟩
      go_wp2
      go_ret
      exact ⟨_, rfl, by rw [hx.out]; exact Own.empty (Nat.le_refl _) rfl, (Below.refl _ _).alloc (Nat.le_refl _) _⟩
  · have b1' : rowsOk l1 (m : Int) = false := by simpa using b1
    have hno : sendOk l1 l2 s = false := by
      cases hq : sendOk l1 l2 s with
      | false => rfl
      | true => exact absurd (send_parts hl1.out hl2.out hq).1 (by simp [b1'])
    have hx := Lib.hid (extSend_no hno)
    clear hno
    clear b1
    go_enter Try.func53, Try.ntmps53
    go_wp2_with fail
    refine wp_loop_rounds 1 ?_
    rw [rounds_succ]
    go_wp2_with fail
    refine (l22Rows_any _ n _ l1 _ _ (h1.alloc _) (by omega)).mono ?_
    rintro e w' ⟨rfl, rfl⟩
    go_wp2
    go_ret
    exact ⟨_, rfl, by rw [hx.out]; exact Own.empty (Nat.le_refl _) rfl, (Below.refl _ _).alloc (Nat.le_refl _) _⟩
end Go.Proofs.Ytakmgghjpompoaa

/- Contracts of ExtCheck, the program's and the reference's. -/
import Derived.Test.YtakmgghjpompoaaExtSend
namespace Go.Proofs.Ytakmgghjpompoaa
set_option linter.unusedSimpArgs false
set_option linter.unusedVariables false
open Go.RowKit
/-- The j-th list of lists. -/
def nthL (ls : List (List Int)) (j : Nat) : List Int := ls.getD j []
def rowLike (ls : List (List Int)) (l : List Int) : Bool := (l.length == (nthL ls 0).length) && decide (l.length ≤ 32) && allRow l
def areRowsB (ls : List (List Int)) : Bool := ls.all (rowLike ls)
theorem nthL_lt {ls : List (List Int)} {j : Nat} (h : j < ls.length) : nthL ls j = ls[j] := by simp [nthL, List.getD, h]
theorem allL_snoc {p : List Int → Bool} {ls : List (List Int)} {k : Nat} (h : k < ls.length) (h1 : (ls.take k).all p = true) (h2 : p (nthL ls k) = true) : (ls.take (k + 1)).all p = true := by
  rw [List.take_succ_eq_append_getElem h, List.all_append, h1, ← nthL_lt h]; simp [h2]
theorem allL_not {p : List Int → Bool} {ls : List (List Int)} {k : Nat} (h : k < ls.length) (h2 : p (nthL ls k) = false) : ls.all p = false := by
  rw [List.all_eq_false]
  exact ⟨ls[k], List.getElem_mem _, by rw [← nthL_lt h]; simp [h2]⟩
/-- A slice of slices, at the head of block g, reads as the lists ls. -/
def Lists (w : World) (g n : Nat) (ls : List (List Int)) : Prop :=
  ls.length = n ∧ ∀ j, j < n → ∃ A m c, w.cell? ⟨g, j, none⟩ = some (.slice A m c) ∧ m ≤ 1048576 ∧ Ints w A m (nthL ls j)
set_option maxRecDepth 100000 in
theorem areRows_any (g n c : Nat) (ls : List (List Int)) (w : World) (h : Lists w g n ls) (hn : n ≤ 1000) (hn0 : 0 < n) :
    Calls Try.prog 81 #[.slice (some ⟨g, 0, none⟩) n c] w fun e w' => e = .returned (.bool (areRowsB ls)) ∧ w = w' := by
  have hl := Lib.hid h.1
  obtain ⟨A0, m0, d0, hc0, hm0, hI0⟩ := h.2 0 hn0
  have hl0 := Lib.hid hI0.len
  go_enter Try.func81, Try.ntmps81
  go_wp2
  go_loop [7] (fun i => ∃ k : Nat, k ≤ n ∧ i = .int .i64 k ∧ Hid ((ls.take k).all (rowLike ls) = true)) (fun i => n - (intOf i).toNat)
  case atStart => exact ⟨0, Nat.zero_le _, rfl, rfl⟩
  case round =>
    obtain ⟨k, hk, rfl, H⟩ := hrel
    by_cases hlt : k < n
    · obtain ⟨A, m, d, hc, hm, hI⟩ := h.2 k hlt
      have hlk := Lib.hid hI.len
      by_cases e1 : m = m0
      · subst e1
        by_cases e2 : (m : Int) ≤ 32
        · by_cases e3 : allRow (nthL ls k) = true
          · have ht : rowLike ls (nthL ls k) = true := by simp [rowLike, hlk.out, hl0.out, e3]; omega
            have HT := Lib.hid ht
            clear ht
            go_wp2_with (go_at_call 74; refine (isRow_any _ _ _ _ _ hI (by omega)).mono ?_; rintro e w' ⟨rfl, rfl⟩)
            go_round
            case rel => exact ⟨k + 1, by omega, by go_num, allL_snoc (by rw [hl.out]; omega) H.out HT.out⟩
            case measure => simp [intOf]; omega
          · have e3' : allRow (nthL ls k) = false := by simpa using e3
            have HT := Lib.hid (show rowLike ls (nthL ls k) = false by simp [rowLike, e3'])
            clear e3
            go_wp2_with (go_at_call 74; refine (isRow_any _ _ _ _ _ hI (by omega)).mono ?_; rintro e w' ⟨rfl, rfl⟩)
            go_ret
            exact ⟨ret_bool (allL_not (by rw [hl.out]; omega) HT.out).symm, rfl⟩
        · have HT := Lib.hid (show rowLike ls (nthL ls k) = false by simp [rowLike, hlk.out]; omega)
          go_wp2
          go_ret
          exact ⟨ret_bool (allL_not (by rw [hl.out]; omega) HT.out).symm, rfl⟩
      · have e1' : ((m : Int) != m0) = true := by simp; omega
        have HT := Lib.hid (show rowLike ls (nthL ls k) = false by simp [rowLike, hlk.out, hl0.out, e1])
        go_wp2
        go_ret
        exact ⟨ret_bool (allL_not (by rw [hl.out]; omega) HT.out).symm, rfl⟩
    · go_wp2
      go_ret
      have hH := H.out
      rw [List.take_of_length_le (by rw [hl.out]; omega)] at hH
      exact ⟨ret_bool hH.symm, rfl⟩
/-- The sums of a check, up to the k-th row. -/
def sumI (ws qs : List Int) : Nat → Int
  | 0 => 0
  | k + 1 => bits .xor .i64 (sumI ws qs k) (mulR (nth ws k) (nth qs k))
def chI (ms ws : List Int) : Nat → Int
  | 0 => 0
  | k + 1 => if nth ms k != 0 then bits .xor .i64 (chI ms ws k) (nth ws k) else chI ms ws k
theorem chI_yes {ms ws : List Int} {k : Nat} (h : (nth ms k != 0) = true) : chI ms ws (k + 1) = bits .xor .i64 (chI ms ws k) (nth ws k) := by rw [chI, if_pos h]
theorem chI_no {ms ws : List Int} {k : Nat} (h : (nth ms k != 0) = false) : chI ms ws (k + 1) = chI ms ws k := by rw [chI, if_neg (by simp [h])]
def sumsEq (ws rs ms qs : List Int) (s : Int) : Bool := sumI ws qs ws.length == bits .xor .i64 (sumI ws rs ws.length) (mulR s (chI ms ws ws.length))
/-- A check of an extension. -/
def extCheckB (ws rs ms qs : List Int) (s : Int) : Bool := areRowsB [ws, rs, ms, qs] && rowB s && sumsEq ws rs ms qs s
theorem areRows_same {ws rs ms qs : List Int} (h : areRowsB [ws, rs, ms, qs] = true) : rs.length = ws.length ∧ ms.length = ws.length ∧ qs.length = ws.length ∧ ws.length ≤ 32 := by
  simp [areRowsB, rowLike, nthL] at h
  omega
set_option maxRecDepth 100000 in
theorem iExtCheck_any (A1 A2 A3 A4 : Option Addr) (n1 n2 n3 n4 c1 c2 c3 c4 : Nat) (ws rs ms qs : List Int) (s : Int) (w : World) (h1 : Ints w A1 n1 ws) (h2 : Ints w A2 n2 rs) (h3 : Ints w A3 n3 ms) (h4 : Ints w A4 n4 qs)
    (b1 : n1 ≤ 1048576) (b2 : n2 ≤ 1048576) (b3 : n3 ≤ 1048576) (b4 : n4 ≤ 1048576) :
    Calls Try.prog 56 #[.slice A1 n1 c1, .slice A2 n2 c2, .slice A3 n3 c3, .slice A4 n4 c4, .int .i64 s] w fun e w' => e = .returned (.bool (extCheckB ws rs ms qs s)) ∧ Below w.heap.size w w' := by
  have hL : ∀ t, Lists (w.alloc (.cells #[.slice A1 n1 c1, .slice A2 n2 c2, .slice A3 n3 c3, .slice A4 n4 c4] t)) w.heap.size 4 [ws, rs, ms, qs] := fun t => by
    refine ⟨rfl, fun j hj => ?_⟩
    rw [World.cell?_alloc_at _ _ _ _ rfl]
    match j, hj with
    | 0, _ => exact ⟨_, _, _, rfl, b1, h1.alloc _⟩
    | 1, _ => exact ⟨_, _, _, rfl, b2, h2.alloc _⟩
    | 2, _ => exact ⟨_, _, _, rfl, b3, h3.alloc _⟩
    | 3, _ => exact ⟨_, _, _, rfl, b4, h4.alloc _⟩
  by_cases k1 : areRowsB [ws, rs, ms, qs] = true
  · by_cases k2 : rowB s = true
    · have hs1 : allRow [s] = true := by simp [allRow, k2]
      have hx := Lib.hid (show extCheckB ws rs ms qs s = sumsEq ws rs ms qs s by simp [extCheckB, k1, k2])
      obtain ⟨e2, e3, e4, e5⟩ := areRows_same k1
      have l1 := h1.len
      have l2 := h2.len
      have l3 := h3.len
      have l4 := h4.len
      obtain rfl : n2 = n1 := by omega
      obtain rfl : n3 = n2 := by omega
      obtain rfl : n4 = n3 := by omega
      have hl1 := Lib.hid l1
      clear e2 e3 e4 l1 l2 l3 l4
      go_enter Try.func56, Try.ntmps56
      go_wp2_with fail
      refine (areRows_any _ 4 _ _ _ (hL _) (by omega) (by omega)).mono ?_
      rintro e w' ⟨rfl, rfl⟩
      go_wp2_with fail
      refine (isRow_any _ 1 _ [s] _ (Ints.new _ [s] _ (by simp) rfl) (by omega)).mono ?_
      rintro e w' ⟨rfl, rfl⟩
      go_wp2_with fail
      go_loopw [11, 12, 13, 31] (fun a b x i wr => ∃ k : Nat, k ≤ n4 ∧ i = .int .i64 k ∧ a = .int .i64 (sumI ws qs k) ∧ b = .int .i64 (sumI ws rs k) ∧ x = .int .i64 (chI ms ws k) ∧ Below w.heap.size w wr) (fun _ _ _ i _ => n4 - (intOf i).toNat)
      case atStart => exact ⟨0, by omega, rfl, rfl, rfl, rfl, ((Below.refl _ _).alloc (Nat.le_refl _) _).alloc (by simp) _⟩
      case round =>
        obtain ⟨k, hk, rfl, rfl, rfl, rfl, hbr⟩ := hrel
        by_cases hlt : k < n4
        · obtain ⟨g1, o1, rfl, hg1, hc1⟩ := h1.block (by omega)
          obtain ⟨g2, o2, rfl, hg2, hc2⟩ := h2.block (by omega)
          obtain ⟨g3, o3, rfl, hg3, hc3⟩ := h3.block (by omega)
          obtain ⟨g4, o4, rfl, hg4, hc4⟩ := h4.block (by omega)
          have d1 : wr.cell? ⟨g1, o1 + k, none⟩ = some (.int .i64 (nth ws k)) := (hbr.cell hg1).trans (hc1 k hlt)
          have d2 : wr.cell? ⟨g2, o2 + k, none⟩ = some (.int .i64 (nth rs k)) := (hbr.cell hg2).trans (hc2 k hlt)
          have d3 : wr.cell? ⟨g3, o3 + k, none⟩ = some (.int .i64 (nth ms k)) := (hbr.cell hg3).trans (hc3 k hlt)
          have d4 : wr.cell? ⟨g4, o4 + k, none⟩ = some (.int .i64 (nth qs k)) := (hbr.cell hg4).trans (hc4 k hlt)
          have z0 := hbr.size
          clear hc1 hc2 hc3 hc4
          go_wp2_with fail
          refine (iMul256_any _ _ _).mono ?_
          rintro e w1 ⟨rfl, e1⟩
          have z1 := e1.size
          have B1 : Below w.heap.size w w1 := hbr.trans (e1.mono (by omega))
          have d2 : w1.cell? ⟨g2, o2 + k, none⟩ = some (.int .i64 (nth rs k)) := (e1.cell (p := ⟨g2, o2 + k, none⟩) (by show g2 < _; omega)).trans d2
          have d3 : w1.cell? ⟨g3, o3 + k, none⟩ = some (.int .i64 (nth ms k)) := (e1.cell (p := ⟨g3, o3 + k, none⟩) (by show g3 < _; omega)).trans d3
          go_wp2_with fail
          refine (iMul256_any _ _ _).mono ?_
          rintro e w2 ⟨rfl, e2⟩
          have z2 := e2.size
          have B2 : Below w.heap.size w w2 := B1.trans (e2.mono (by omega))
          have d3 : w2.cell? ⟨g3, o3 + k, none⟩ = some (.int .i64 (nth ms k)) := (e2.cell (p := ⟨g3, o3 + k, none⟩) (by show g3 < _; omega)).trans d3
          by_cases hm : (nth ms k != 0) = true
          · have hch := Lib.hid (chI_yes (ws := ws) hm)
            go_wp2
            go_roundw
            case rel => exact ⟨k + 1, by omega, by go_num, rfl, rfl, by rw [hch.out], B2⟩
            case measure => simp [intOf]; omega
          · have hm' : (nth ms k != 0) = false := by simpa using hm
            have hch := Lib.hid (chI_no (ws := ws) hm')
            clear hm
            go_wp2
            go_roundw
            case rel => exact ⟨k + 1, by omega, by go_num, rfl, rfl, by rw [hch.out], B2⟩
            case measure => simp [intOf]; omega
        · go_wp2_with fail
          refine (iMul256_any _ _ _).mono ?_
          rintro e w1 ⟨rfl, e1⟩
          have z0 := hbr.size
          go_wp2_with fail
          go_ret
          exact ⟨ret_bool (by rw [hx.out, sumsEq, hl1.out, show n4 = k by omega]), hbr.trans (e1.mono (by omega))⟩
    · have k2' : rowB s = false := by simpa using k2
      have hs1 : allRow [s] = false := by simp [allRow, k2']
      have hx := Lib.hid (show extCheckB ws rs ms qs s = false by simp [extCheckB, k2'])
      go_enter Try.func56, Try.ntmps56
      go_wp2_with fail
      refine (areRows_any _ 4 _ _ _ (hL _) (by omega) (by omega)).mono ?_
      rintro e w' ⟨rfl, rfl⟩
      go_wp2_with fail
      refine (isRow_any _ 1 _ [s] _ (Ints.new _ [s] _ (by simp) rfl) (by omega)).mono ?_
      rintro e w' ⟨rfl, rfl⟩
      go_wp2_with fail
      go_ret
      exact ⟨ret_bool hx.out.symm, ((Below.refl _ _).alloc (Nat.le_refl _) _).alloc (by simp) _⟩
  · have k1' : areRowsB [ws, rs, ms, qs] = false := by simpa using k1
    have hx := Lib.hid (show extCheckB ws rs ms qs s = false by simp [extCheckB, k1'])
    go_enter Try.func56, Try.ntmps56
    go_wp2_with fail
    refine (areRows_any _ 4 _ _ _ (hL _) (by omega) (by omega)).mono ?_
    rintro e w' ⟨rfl, rfl⟩
    go_wp2_with fail
    go_ret
    exact ⟨ret_bool hx.out.symm, (Below.refl _ _).alloc (Nat.le_refl _) _⟩
theorem areRows_eq {ws rs ms qs : List Int} {n : Nat} (h : ws.length = n) : areRowsB [ws, rs, ms, qs] = (rowsOk ws (n : Int) && rowsOk rs (n : Int) && rowsOk ms (n : Int) && rowsOk qs (n : Int)) := by
  rw [Bool.eq_iff_iff]
  simp only [areRowsB, rowLike, nthL, rowsOk, List.all_cons, List.all_nil, List.getD_cons_zero, Bool.and_eq_true, beq_iff_eq, decide_eq_true_eq, Bool.and_true]
  constructor
  · rintro ⟨⟨⟨a1, a2⟩, a3⟩, ⟨⟨b1, b2⟩, b3⟩, ⟨⟨c1, c2⟩, c3⟩, ⟨d1, d2⟩, d3⟩
    exact ⟨⟨⟨⟨⟨a3, by omega⟩, by omega⟩, ⟨b3, by omega⟩, by omega⟩, ⟨c3, by omega⟩, by omega⟩, ⟨d3, by omega⟩, by omega⟩
  · rintro ⟨⟨⟨⟨⟨a3, a1⟩, a2⟩, ⟨b3, b1⟩, b2⟩, ⟨c3, c1⟩, c2⟩, ⟨d3, d1⟩, d2⟩
    exact ⟨⟨⟨trivial, by omega⟩, a3⟩, ⟨⟨by omega, by omega⟩, b3⟩, ⟨⟨by omega, by omega⟩, c3⟩, ⟨by omega, by omega⟩, d3⟩
theorem sMul256_quiet (a b : Int) (w : World) :
    Calls Try.prog 41 #[.int .i64 a, .int .i64 b] w fun e w' => e = .returned (.int .i64 (mulR a b)) ∧ w' = w :=
  (sMul256_same a b w).mono fun _ _ ⟨h1, h2⟩ => ⟨h1, h2.symm⟩
set_option maxRecDepth 100000 in
set_option maxHeartbeats 1000000 in
theorem sExtCheck_any (A1 A2 A3 A4 : Option Addr) (n1 n2 n3 n4 c1 c2 c3 c4 : Nat) (ws rs ms qs : List Int) (s : Int) (w : World) (h1 : Ints w A1 n1 ws) (h2 : Ints w A2 n2 rs) (h3 : Ints w A3 n3 ms) (h4 : Ints w A4 n4 qs)
    (b1 : n1 ≤ 1048576) (b2 : n2 ≤ 1048576) (b3 : n3 ≤ 1048576) (b4 : n4 ≤ 1048576) :
    Calls Try.prog 55 #[.slice A1 n1 c1, .slice A2 n2 c2, .slice A3 n3 c3, .slice A4 n4 c4, .int .i64 s] w fun e w' => e = .returned (.bool (extCheckB ws rs ms qs s)) ∧ Below w.heap.size w w' := by
  have hl1 := Lib.hid h1.len
  by_cases k1 : rowsOk ws (n1 : Int) = true
  · by_cases k2 : rowsOk rs (n1 : Int) = true
    · by_cases k3 : rowsOk ms (n1 : Int) = true
      · by_cases k4 : rowsOk qs (n1 : Int) = true
        · by_cases k5 : rowB s = true
          · have kA : areRowsB [ws, rs, ms, qs] = true := by rw [areRows_eq hl1.out]; simp [k1, k2, k3, k4]
            have hx := Lib.hid (show extCheckB ws rs ms qs s = sumsEq ws rs ms qs s by simp [extCheckB, kA, k5])
            obtain ⟨e2, e3, e4, e5⟩ := areRows_same kA
            have l1 := h1.len
            have l2 := h2.len
            have l3 := h3.len
            have l4 := h4.len
            obtain rfl : n2 = n1 := by omega
            obtain rfl : n3 = n2 := by omega
            obtain rfl : n4 = n3 := by omega
            clear e2 e3 e4 l1 l2 l3 l4 kA
            go_enter Try.func55, Try.ntmps55
            go_wp2_with fail
            refine (l22Rows_any _ n4 _ ws _ _ h1 (by omega)).mono ?_
            rintro e w' ⟨rfl, rfl⟩
            go_wp2_with fail
            refine (l22Rows_any _ n4 _ rs _ _ h2 (by omega)).mono ?_
            rintro e w' ⟨rfl, rfl⟩
            go_wp2_with fail
            refine (l22Rows_any _ n4 _ ms _ _ h3 (by omega)).mono ?_
            rintro e w' ⟨rfl, rfl⟩
            go_wp2_with fail
            refine (l22Rows_any _ n4 _ qs _ _ h4 (by omega)).mono ?_
            rintro e w' ⟨rfl, rfl⟩
            go_wp2_with fail
            refine (l22Row_any _ _).mono ?_
            rintro e w' ⟨rfl, rfl⟩
            go_wp2_with fail
            go_loopw [12, 13, 14, 15] (fun a b x i wr => ∃ k : Nat, k ≤ n4 ∧ i = .int .i64 k ∧ a = .int .i64 (sumI ws qs k) ∧ b = .int .i64 (sumI ws rs k) ∧ x = .int .i64 (chI ms ws k) ∧ Below w.heap.size w wr) (fun _ _ _ i _ => n4 - (intOf i).toNat)
            case atStart => exact ⟨0, by omega, rfl, rfl, rfl, rfl, Below.refl _ _⟩
            case round =>
              obtain ⟨k, hk, rfl, rfl, rfl, rfl, hbr⟩ := hrel
              by_cases hlt : k < n4
              · obtain ⟨g1, o1, rfl, hg1, hc1⟩ := h1.block (by omega)
                obtain ⟨g2, o2, rfl, hg2, hc2⟩ := h2.block (by omega)
                obtain ⟨g3, o3, rfl, hg3, hc3⟩ := h3.block (by omega)
                obtain ⟨g4, o4, rfl, hg4, hc4⟩ := h4.block (by omega)
                have d1 : wr.cell? ⟨g1, o1 + k, none⟩ = some (.int .i64 (nth ws k)) := (hbr.cell hg1).trans (hc1 k hlt)
                have d2 : wr.cell? ⟨g2, o2 + k, none⟩ = some (.int .i64 (nth rs k)) := (hbr.cell hg2).trans (hc2 k hlt)
                have d3 : wr.cell? ⟨g3, o3 + k, none⟩ = some (.int .i64 (nth ms k)) := (hbr.cell hg3).trans (hc3 k hlt)
                have d4 : wr.cell? ⟨g4, o4 + k, none⟩ = some (.int .i64 (nth qs k)) := (hbr.cell hg4).trans (hc4 k hlt)
                clear hc1 hc2 hc3 hc4
                go_wp2_with fail
                go_quiet ((go_at_call 41; exact Calls.quiet_of_same (sMul256_quiet _ _ _)))
                go_wp2_with fail
                have q1 : (wr.drewN nq).cell? ⟨g1, o1 + k, none⟩ = some (.int .i64 (nth ws k)) := d1
                have q2 : (wr.drewN nq).cell? ⟨g2, o2 + k, none⟩ = some (.int .i64 (nth rs k)) := d2
                have q3 : (wr.drewN nq).cell? ⟨g3, o3 + k, none⟩ = some (.int .i64 (nth ms k)) := d3
                have hbq := below_drewN hbr nq
                clear d1 d2 d3 d4 hbr
                generalize wr.drewN nq = wq at *
                go_quiet ((go_at_call 41; exact Calls.quiet_of_same (sMul256_quiet _ _ _)))
                by_cases hm : (nth ms k != 0) = true
                · have hch := Lib.hid (chI_yes (ws := ws) hm)
                  go_wp2_with fail
                  go_roundw
                  case rel => exact ⟨k + 1, by omega, by go_num, rfl, rfl, by rw [hch.out], below_drewN hbq _⟩
                  case measure => simp [intOf]; omega
                · have hm' : (nth ms k != 0) = false := by simpa using hm
                  have hch := Lib.hid (chI_no (ws := ws) hm')
                  clear hm
                  go_wp2_with fail
                  go_roundw
                  case rel => exact ⟨k + 1, by omega, by go_num, rfl, rfl, by rw [hch.out], below_drewN hbq _⟩
                  case measure => simp [intOf]; omega
              · go_wp2_with fail
                refine (sMul256_same _ _ _).mono ?_
                rintro e w1 ⟨rfl, rfl⟩
                go_wp2_with fail
                go_ret
                exact ⟨ret_bool (by rw [hx.out, sumsEq, hl1.out, show n4 = k by omega]), hbr⟩
          · have kk : rowB s = false := by simpa using k5
            have hx := Lib.hid (show extCheckB ws rs ms qs s = false by rw [extCheckB, areRows_eq hl1.out]; simp [kk])
            clear k5
            go_enter Try.func55, Try.ntmps55
            go_wp2_with fail
            refine (l22Rows_any _ n1 _ ws _ _ h1 (by omega)).mono ?_
            rintro e w' ⟨rfl, rfl⟩
            go_wp2_with fail
            refine (l22Rows_any _ n2 _ rs _ _ h2 (by omega)).mono ?_
            rintro e w' ⟨rfl, rfl⟩
            go_wp2_with fail
            refine (l22Rows_any _ n3 _ ms _ _ h3 (by omega)).mono ?_
            rintro e w' ⟨rfl, rfl⟩
            go_wp2_with fail
            refine (l22Rows_any _ n4 _ qs _ _ h4 (by omega)).mono ?_
            rintro e w' ⟨rfl, rfl⟩
            go_wp2_with fail
            refine (l22Row_any _ _).mono ?_
            rintro e w' ⟨rfl, rfl⟩
            go_wp2_with fail
            go_ret
            exact ⟨ret_bool hx.out.symm, Below.refl _ _⟩
        · have kk : rowsOk qs (n1 : Int) = false := by simpa using k4
          have hx := Lib.hid (show extCheckB ws rs ms qs s = false by rw [extCheckB, areRows_eq hl1.out]; simp [kk])
          clear k4
          go_enter Try.func55, Try.ntmps55
          go_wp2_with fail
          refine (l22Rows_any _ n1 _ ws _ _ h1 (by omega)).mono ?_
          rintro e w' ⟨rfl, rfl⟩
          go_wp2_with fail
          refine (l22Rows_any _ n2 _ rs _ _ h2 (by omega)).mono ?_
          rintro e w' ⟨rfl, rfl⟩
          go_wp2_with fail
          refine (l22Rows_any _ n3 _ ms _ _ h3 (by omega)).mono ?_
          rintro e w' ⟨rfl, rfl⟩
          go_wp2_with fail
          refine (l22Rows_any _ n4 _ qs _ _ h4 (by omega)).mono ?_
          rintro e w' ⟨rfl, rfl⟩
          go_wp2_with fail
          go_ret
          exact ⟨ret_bool hx.out.symm, Below.refl _ _⟩
      · have kk : rowsOk ms (n1 : Int) = false := by simpa using k3
        have hx := Lib.hid (show extCheckB ws rs ms qs s = false by rw [extCheckB, areRows_eq hl1.out]; simp [kk])
        clear k3
        go_enter Try.func55, Try.ntmps55
        go_wp2_with fail
        refine (l22Rows_any _ n1 _ ws _ _ h1 (by omega)).mono ?_
        rintro e w' ⟨rfl, rfl⟩
        go_wp2_with fail
        refine (l22Rows_any _ n2 _ rs _ _ h2 (by omega)).mono ?_
        rintro e w' ⟨rfl, rfl⟩
        go_wp2_with fail
        refine (l22Rows_any _ n3 _ ms _ _ h3 (by omega)).mono ?_
        rintro e w' ⟨rfl, rfl⟩
        go_wp2_with fail
        go_ret
        exact ⟨ret_bool hx.out.symm, Below.refl _ _⟩
    · have kk : rowsOk rs (n1 : Int) = false := by simpa using k2
      have hx := Lib.hid (show extCheckB ws rs ms qs s = false by rw [extCheckB, areRows_eq hl1.out]; simp [kk])
      clear k2
      go_enter Try.func55, Try.ntmps55
      go_wp2_with fail
      refine (l22Rows_any _ n1 _ ws _ _ h1 (by omega)).mono ?_
      rintro e w' ⟨rfl, rfl⟩
      go_wp2_with fail
      refine (l22Rows_any _ n2 _ rs _ _ h2 (by omega)).mono ?_
      rintro e w' ⟨rfl, rfl⟩
      go_wp2_with fail
      go_ret
      exact ⟨ret_bool hx.out.symm, Below.refl _ _⟩
  · have kk : rowsOk ws (n1 : Int) = false := by simpa using k1
    have hx := Lib.hid (show extCheckB ws rs ms qs s = false by rw [extCheckB, areRows_eq hl1.out]; simp [kk])
    clear k1
    go_enter Try.func55, Try.ntmps55
    go_wp2_with fail
    refine (l22Rows_any _ n1 _ ws _ _ h1 (by omega)).mono ?_
    rintro e w' ⟨rfl, rfl⟩
    go_wp2_with fail
    go_ret
    exact ⟨ret_bool hx.out.symm, Below.refl _ _⟩
end Go.Proofs.Ytakmgghjpompoaa

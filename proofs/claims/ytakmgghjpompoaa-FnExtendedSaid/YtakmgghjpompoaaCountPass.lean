/- Contracts of CountPassing, the program's and the reference's. -/
import Derived.Test.YtakmgghjpompoaaExtSendR
import Derived.Test.YtakmgghjpompoaaExtCheckR
import Derived.Test.YtakmgghjpompoaaCnt
import Derived.Test.YtakmgghjpompoaaHl
namespace Go.Proofs.Ytakmgghjpompoaa
set_option linter.unusedSimpArgs false
set_option linter.unusedVariables false
open Go.RowKit
/-- The secret s lets the rows pass. -/
def passB (ws rs ms : List Int) (s : Nat) : Bool := extCheckB ws rs ms (extSendL rs ms s) s
def rows3 (ws rs ms : List Int) : Bool := rowsOk ws ws.length && rowsOk rs ws.length && rowsOk ms ws.length
/-- How many secrets let the rows pass. -/
def countPass (ws rs ms : List Int) : Int := if rows3 ws rs ms then (cnt (passB ws rs ms) 256 : Nat) else 0
theorem countPass_yes {ws rs ms : List Int} (h : rows3 ws rs ms = true) : countPass ws rs ms = (cnt (passB ws rs ms) 256 : Nat) := by simp [countPass, h]
theorem countPass_no {ws rs ms : List Int} (h : rows3 ws rs ms = false) : countPass ws rs ms = 0 := by simp [countPass, h]
theorem areRows3_eq (ws rs ms : List Int) : areRowsB [ws, rs, ms] = rows3 ws rs ms := by
  rw [Bool.eq_iff_iff]
  simp only [areRowsB, rows3, rowLike, nthL, rowsOk, List.all_cons, List.all_nil, List.getD_cons_zero, Bool.and_eq_true, beq_iff_eq, decide_eq_true_eq, Bool.and_true]
  constructor
  · rintro ⟨⟨⟨a1, a2⟩, a3⟩, ⟨⟨b1, b2⟩, b3⟩, ⟨c1, c2⟩, c3⟩
    exact ⟨⟨⟨⟨a3, by omega⟩, by omega⟩, ⟨b3, by omega⟩, by omega⟩, ⟨c3, by omega⟩, by omega⟩
  · rintro ⟨⟨⟨⟨a3, a1⟩, a2⟩, ⟨b3, b1⟩, b2⟩, ⟨c3, c1⟩, c2⟩
    exact ⟨⟨⟨trivial, by omega⟩, a3⟩, ⟨⟨by omega, by omega⟩, b3⟩, ⟨by omega, by omega⟩, c3⟩
theorem Rd.ints {w : World} {A : Option Addr} {n c : Nat} {l : List Int} (h : Rd w (.slice A n c) l) : Ints w A n l := by
  obtain ⟨_, _, _, e, hI⟩ := h; cases e; exact hI
theorem passB_eq (ws rs ms : List Int) (k : Nat) : extCheckB ws rs ms (extSendL rs ms (k : Int)) (k : Int) = passB ws rs ms k := rfl
set_option maxRecDepth 100000 in
theorem sCountPassing_L {v1 v2 v3 : Value} {ws rs ms : List Int} {w : World} (h1 : RdL w [(v1, .ints ws)]) (b1 : ws.length ≤ 1048576) (h2 : RdL w [(v2, .ints rs)]) (b2 : rs.length ≤ 1048576) (h3 : RdL w [(v3, .ints ms)]) (b3 : ms.length ≤ 1048576) :
    Calls Try.prog 66 #[v1, v2, v3] w fun e w' => e = .returned (.int .i64 (countPass ws rs ms)) ∧ Below w.heap.size w w' := by
  have i1 := h1.ints
  have i2 := h2.ints
  have i3 := h3.ints
  obtain ⟨A1, n1, c1, rfl, j1⟩ := i1
  obtain ⟨A2, n2, c2, rfl, j2⟩ := i2
  obtain ⟨A3, n3, c3, rfl, j3⟩ := i3
  have l1 := Lib.hid j1.len
  have l2 := Lib.hid j2.len
  have l3 := Lib.hid j3.len
  have m1 : n1 ≤ 1048576 := by have := l1.out; omega
  have m2 : n2 ≤ 1048576 := by have := l2.out; omega
  have m3 : n3 ≤ 1048576 := by have := l3.out; omega
  have hrows : rows3 ws rs ms = (rowsOk ws n1 && rowsOk rs n1 && rowsOk ms n1) := by rw [rows3, l1.out]
  by_cases k1 : rowsOk ws (n1 : Int) = true
  · by_cases k2 : rowsOk rs (n1 : Int) = true
    · by_cases k3 : rowsOk ms (n1 : Int) = true
      · have hx := Lib.hid (countPass_yes (ws := ws) (rs := rs) (ms := ms) (by rw [hrows, k1, k2, k3]; rfl))
        clear hrows
        go_enter Try.func66, Try.ntmps66
        go_wp2
        go_loopw [8, 9] (fun c s wr => ∃ k : Nat, k ≤ 256 ∧ s = .int .i64 k ∧ c = .int .i64 (cnt (passB ws rs ms) k : Nat) ∧ Below w.heap.size w wr) (fun _ s _ => 256 - (intOf s).toNat)
        case atStart => exact ⟨0, by omega, rfl, rfl, Below.refl _ _⟩
        case round =>
          obtain ⟨k, hk, rfl, rfl, hbr⟩ := hrel
          have hc := cnt_le (passB ws rs ms) k
          by_cases hlt : (k : Int) ≤ 255
          · go_wp2_with fail
            refine (l22Rows_any _ n1 _ ws _ _ (j1.below hbr) (by omega)).mono ?_
            rintro e w' ⟨rfl, rfl⟩
            go_wp2_with fail
            refine (l22Rows_any _ n2 _ rs _ _ (j2.below hbr) (by omega)).mono ?_
            rintro e w' ⟨rfl, rfl⟩
            go_wp2_with fail
            refine (l22Rows_any _ n3 _ ms _ _ (j3.below hbr) (by omega)).mono ?_
            rintro e w' ⟨rfl, rfl⟩
            go_wp2_with fail
            refine (sExtSend_R (k : Int) ⟨_, _, _, rfl, j2.below hbr⟩ ⟨_, _, _, rfl, j3.below hbr⟩ b2 b3).mono ?_
            rintro e w1 ⟨v, rfl, hn, hb1⟩
            have hB1 : Below w.heap.size w w1 := hbr.trans (hb1.mono hbr.size)
            have hlen : (extSendL rs ms (k : Int)).length ≤ 1048576 := Nat.le_trans (extSend_len _ _ _) (by omega)
            go_wp2_with fail
            refine (sExtCheck_R (k : Int) ⟨_, _, _, rfl, j1.below hB1⟩ ⟨_, _, _, rfl, j2.below hB1⟩ ⟨_, _, _, rfl, j3.below hB1⟩ hn.rd b1 b2 b3 hlen).mono ?_
            rintro e w2 ⟨rfl, hb2⟩
            have hB2 : Below w.heap.size w w2 := hB1.trans (hb2.mono hB1.size)
            rw [passB_eq]
            cases hp : passB ws rs ms k with
            | true =>
              have hu := Lib.hid (cnt_up hp)
              clear hp
              go_wp2
              go_roundw
              case rel => exact ⟨k + 1, by omega, by go_num, by rw [hu.out]; go_num, hB2⟩
              case measure => simp [intOf]; omega
            | false =>
              have hu := Lib.hid (cnt_same hp)
              clear hp
              go_wp2
              go_roundw
              case rel => exact ⟨k + 1, by omega, by go_num, by rw [hu.out], hB2⟩
              case measure => simp [intOf]; omega
          · go_wp2
            go_ret
            obtain rfl : k = 256 := by omega
            exact ⟨ret_int hx.out.symm, hbr⟩
      · have k3' : rowsOk ms (n1 : Int) = false := by simpa using k3
        have hx := Lib.hid (countPass_no (ws := ws) (rs := rs) (ms := ms) (by rw [hrows, k3']; simp))
        clear hrows k3
        go_enter Try.func66, Try.ntmps66
        go_wp2
        refine wp_loop_rounds 1 ?_
        rw [rounds_succ]
        go_wp2_with fail
        refine (l22Rows_any _ n1 _ ws _ _ j1 (by omega)).mono ?_
        rintro e w' ⟨rfl, rfl⟩
        go_wp2_with fail
        refine (l22Rows_any _ n2 _ rs _ _ j2 (by omega)).mono ?_
        rintro e w' ⟨rfl, rfl⟩
        go_wp2_with fail
        refine (l22Rows_any _ n3 _ ms _ _ j3 (by omega)).mono ?_
        rintro e w' ⟨rfl, rfl⟩
        go_wp2
        go_ret
        exact ⟨ret_int hx.out.symm, Below.refl _ _⟩
    · have k2' : rowsOk rs (n1 : Int) = false := by simpa using k2
      have hx := Lib.hid (countPass_no (ws := ws) (rs := rs) (ms := ms) (by rw [hrows, k2']; simp))
      clear hrows k2
      go_enter Try.func66, Try.ntmps66
      go_wp2
      refine wp_loop_rounds 1 ?_
      rw [rounds_succ]
      go_wp2_with fail
      refine (l22Rows_any _ n1 _ ws _ _ j1 (by omega)).mono ?_
      rintro e w' ⟨rfl, rfl⟩
      go_wp2_with fail
      refine (l22Rows_any _ n2 _ rs _ _ j2 (by omega)).mono ?_
      rintro e w' ⟨rfl, rfl⟩
      go_wp2
      go_ret
      exact ⟨ret_int hx.out.symm, Below.refl _ _⟩
  · have k1' : rowsOk ws (n1 : Int) = false := by simpa using k1
    have hx := Lib.hid (countPass_no (ws := ws) (rs := rs) (ms := ms) (by rw [hrows, k1']; simp))
    clear hrows k1
    go_enter Try.func66, Try.ntmps66
    go_wp2
    refine wp_loop_rounds 1 ?_
    rw [rounds_succ]
    go_wp2_with fail
    refine (l22Rows_any _ n1 _ ws _ _ j1 (by omega)).mono ?_
    rintro e w' ⟨rfl, rfl⟩
    go_wp2
    go_ret
    exact ⟨ret_int hx.out.symm, Below.refl _ _⟩
set_option maxRecDepth 100000 in
theorem iCountPassing_L {v1 v2 v3 : Value} {ws rs ms : List Int} {w : World} (h1 : RdL w [(v1, .ints ws)]) (b1 : ws.length ≤ 1048576) (h2 : RdL w [(v2, .ints rs)]) (b2 : rs.length ≤ 1048576) (h3 : RdL w [(v3, .ints ms)]) (b3 : ms.length ≤ 1048576) :
    Calls Try.prog 67 #[v1, v2, v3] w fun e w' => e = .returned (.int .i64 (countPass ws rs ms)) ∧ Below w.heap.size w w' := by
  have i1 := h1.ints
  have i2 := h2.ints
  have i3 := h3.ints
  obtain ⟨A1, n1, c1, rfl, j1⟩ := i1
  obtain ⟨A2, n2, c2, rfl, j2⟩ := i2
  obtain ⟨A3, n3, c3, rfl, j3⟩ := i3
  have m1 : n1 ≤ 1048576 := by rw [← j1.len]; exact b1
  have m2 : n2 ≤ 1048576 := by rw [← j2.len]; exact b2
  have m3 : n3 ≤ 1048576 := by rw [← j3.len]; exact b3
  have hL : ∀ (W : World) t, Below w.heap.size w W → Lists (W.alloc (.cells #[.slice A1 n1 c1, .slice A2 n2 c2, .slice A3 n3 c3] t)) W.heap.size 3 [ws, rs, ms] := fun W t hb => by
    refine ⟨rfl, fun j hj => ?_⟩
    rw [World.cell?_alloc_at _ _ _ _ rfl]
    match j, hj with
    | 0, _ => exact ⟨_, _, _, rfl, m1, (j1.below hb).alloc _⟩
    | 1, _ => exact ⟨_, _, _, rfl, m2, (j2.below hb).alloc _⟩
    | 2, _ => exact ⟨_, _, _, rfl, m3, (j3.below hb).alloc _⟩
  by_cases k1 : rows3 ws rs ms = true
  · have hx := Lib.hid (countPass_yes k1)
    have k2 : areRowsB [ws, rs, ms] = true := by rw [areRows3_eq]; exact k1
    have HL := Lib.hid hL
    clear hL
    go_enter Try.func67, Try.ntmps67
    go_wp2
    go_loopw [7, 8] (fun c s wr => ∃ k : Nat, k ≤ 256 ∧ s = .int .i64 k ∧ c = .int .i64 (cnt (passB ws rs ms) k : Nat) ∧ Below w.heap.size w wr) (fun _ s _ => 256 - (intOf s).toNat)
    case atStart => exact ⟨0, by omega, rfl, rfl, Below.refl _ _⟩
    case round =>
      obtain ⟨k, hk, rfl, rfl, hbr⟩ := hrel
      have hc := cnt_le (passB ws rs ms) k
      by_cases hlt : k < 256
      · go_wp2_with fail
        refine (areRows_any _ 3 _ _ _ (HL.out _ _ hbr) (by omega) (by omega)).mono ?_
        rintro e w' ⟨rfl, rfl⟩
        have hB0 : Below w.heap.size w (wr.alloc (.cells #[.slice A1 n1 c1, .slice A2 n2 c2, .slice A3 n3 c3] 95)) := hbr.alloc hbr.size _
        go_wp2_with fail
        refine (iExtSend_R (k : Int) ⟨_, _, _, rfl, (j2.below hbr).alloc _⟩ ⟨_, _, _, rfl, (j3.below hbr).alloc _⟩ b2 b3).mono ?_
        rintro e w1 ⟨v, rfl, hn, hb1⟩
        have hB1 : Below w.heap.size w w1 := Below.trans (hbr.alloc hbr.size _) (hb1.mono (by simp; have := hbr.size; omega))
        have hlen : (extSendL rs ms (k : Int)).length ≤ 1048576 := Nat.le_trans (extSend_len _ _ _) (by omega)
        go_wp2_with fail
        refine (iExtCheck_R (k : Int) ⟨_, _, _, rfl, j1.below hB1⟩ ⟨_, _, _, rfl, j2.below hB1⟩ ⟨_, _, _, rfl, j3.below hB1⟩ hn.rd b1 b2 b3 hlen).mono ?_
        rintro e w2 ⟨rfl, hb2⟩
        have hB2 : Below w.heap.size w w2 := hB1.trans (hb2.mono hB1.size)
        rw [passB_eq]
        cases hp : passB ws rs ms k with
        | true =>
          have hu := Lib.hid (cnt_up hp)
          clear hp
          go_wp2
          go_roundw
          case rel => exact ⟨k + 1, by omega, by go_num, by rw [hu.out]; go_num, hB2⟩
          case measure => simp [intOf]; omega
        | false =>
          have hu := Lib.hid (cnt_same hp)
          clear hp
          go_wp2
          go_roundw
          case rel => exact ⟨k + 1, by omega, by go_num, by rw [hu.out], hB2⟩
          case measure => simp [intOf]; omega
      · go_wp2
        go_ret
        obtain rfl : k = 256 := by omega
        exact ⟨ret_int hx.out.symm, hbr⟩
  · have k1' : rows3 ws rs ms = false := by simpa using k1
    have hx := Lib.hid (countPass_no k1')
    have k2 : areRowsB [ws, rs, ms] = false := by rw [areRows3_eq]; exact k1'
    have HL := Lib.hid hL
    clear hL k1
    go_enter Try.func67, Try.ntmps67
    go_wp2
    refine wp_loop_rounds 1 ?_
    rw [rounds_succ]
    go_wp2_with fail
    refine (areRows_any _ 3 _ _ _ (HL.out _ _ (Below.refl _ _)) (by omega) (by omega)).mono ?_
    rintro e w' ⟨rfl, rfl⟩
    go_wp2
    go_ret
    exact ⟨ret_int hx.out.symm, by repeat (first | exact Below.refl _ _ | refine Below.alloc ?_ (by first | omega | (simp; done) | (simp; omega)) _ | refine Below.setCell ?_ (by first | omega | (simp; done) | (simp; omega)) _ | refine Below.drew ?_ | refine below_drewN ?_ _ | refine Below.trans ?_ (hb30.mono (by first | omega | (simp; done) | (simp; omega))) | refine Below.trans ?_ (hb29.mono (by first | omega | (simp; done) | (simp; omega))) | refine Below.trans ?_ (hb28.mono (by first | omega | (simp; done) | (simp; omega))) | refine Below.trans ?_ (hb27.mono (by first | omega | (simp; done) | (simp; omega))) | refine Below.trans ?_ (hb26.mono (by first | omega | (simp; done) | (simp; omega))) | refine Below.trans ?_ (hb25.mono (by first | omega | (simp; done) | (simp; omega))) | refine Below.trans ?_ (hb24.mono (by first | omega | (simp; done) | (simp; omega))) | refine Below.trans ?_ (hb23.mono (by first | omega | (simp; done) | (simp; omega))) | refine Below.trans ?_ (hb22.mono (by first | omega | (simp; done) | (simp; omega))) | refine Below.trans ?_ (hb21.mono (by first | omega | (simp; done) | (simp; omega))) | refine Below.trans ?_ (hb20.mono (by first | omega | (simp; done) | (simp; omega))) | refine Below.trans ?_ (hb19.mono (by first | omega | (simp; done) | (simp; omega))) | refine Below.trans ?_ (hb18.mono (by first | omega | (simp; done) | (simp; omega))) | refine Below.trans ?_ (hb17.mono (by first | omega | (simp; done) | (simp; omega))) | refine Below.trans ?_ (hb16.mono (by first | omega | (simp; done) | (simp; omega))) | refine Below.trans ?_ (hb15.mono (by first | omega | (simp; done) | (simp; omega))) | refine Below.trans ?_ (hb14.mono (by first | omega | (simp; done) | (simp; omega))) | refine Below.trans ?_ (hb13.mono (by first | omega | (simp; done) | (simp; omega))) | refine Below.trans ?_ (hb12.mono (by first | omega | (simp; done) | (simp; omega))) | refine Below.trans ?_ (hb11.mono (by first | omega | (simp; done) | (simp; omega))) | refine Below.trans ?_ (hb10.mono (by first | omega | (simp; done) | (simp; omega))) | refine Below.trans ?_ (hb9.mono (by first | omega | (simp; done) | (simp; omega))) | refine Below.trans ?_ (hb8.mono (by first | omega | (simp; done) | (simp; omega))) | refine Below.trans ?_ (hb7.mono (by first | omega | (simp; done) | (simp; omega))) | refine Below.trans ?_ (hb6.mono (by first | omega | (simp; done) | (simp; omega))) | refine Below.trans ?_ (hb5.mono (by first | omega | (simp; done) | (simp; omega))) | refine Below.trans ?_ (hb4.mono (by first | omega | (simp; done) | (simp; omega))) | refine Below.trans ?_ (hb3.mono (by first | omega | (simp; done) | (simp; omega))) | refine Below.trans ?_ (hb2.mono (by first | omega | (simp; done) | (simp; omega))) | refine Below.trans ?_ (hb1.mono (by first | omega | (simp; done) | (simp; omega))))⟩
end Go.Proofs.Ytakmgghjpompoaa

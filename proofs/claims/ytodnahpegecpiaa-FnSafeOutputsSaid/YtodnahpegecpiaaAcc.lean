/- Contracts of CountAccepted, the program's and the reference's. -/
import Derived.Test.YtodnahpegecpiaaLab
import Derived.Test.YtodnahpegecpiaaCnt
import Derived.Test.YtodnahpegecpiaaHl
namespace Go.Proofs.Ytodnahpegecpiaa
set_option linter.unusedSimpArgs false
set_option linter.unusedVariables false
open Go.RowKit
/-- A label whose hash is one of two numbers. -/
def accB (h0 h1 : Int) (x : Nat) : Bool := (hashI x 999999 == h0) || (hashI x 999999 == h1)
def countAcc (l : List Int) : Int := if l.length = 2 then (cnt (accB (nth l 0) (nth l 1)) 65536 : Nat) else 0
set_option maxRecDepth 100000 in
theorem sCountAccepted_L {A : Option Addr} {n c : Nat} {l : List Int} {w : World} (h : RdL w [(.slice A n c, .ints l)]) (hn : l.length ≤ 1048576) :
    Calls Try.prog 34 #[.slice A n c] w fun e w' => e = .returned (.int .i64 (countAcc l)) ∧ Below w.heap.size w w' := by
  obtain ⟨A', n', c', e, hI⟩ := h.ints
  cases e
  have hl := Lib.hid hI.len
  clear h
  have hn2 : n ≤ 1048576 := by rw [← hl.out]; exact hn
  clear hn
  by_cases h2 : n = 2
  · subst h2
    have HE := Lib.hid (show countAcc l = (cnt (accB (nth l 0) (nth l 1)) 65536 : Nat) by rw [countAcc, if_pos hl.out])
    obtain ⟨g, o, rfl, hg, hc⟩ := hI.block (by omega)
    have c0 := hc 0 (by omega)
    have c1 := hc 1 (by omega)
    clear hc
    simp only [Nat.add_zero] at c0
    go_enter Try.func34, Try.ntmps34
    go_wp2
    go_loop [3, 4] (fun s i => ∃ k : Nat, k ≤ 65536 ∧ i = .int .i64 k ∧ s = .int .i64 (cnt (accB (nth l 0) (nth l 1)) k : Nat)) (fun _ i => 65536 - (intOf i).toNat)
    case atStart => exact ⟨0, by omega, rfl, rfl⟩
    case round =>
      obtain ⟨k, hk, rfl, rfl⟩ := hrel
      have hcl := cnt_le (accB (nth l 0) (nth l 1)) k
      by_cases hlt : k < 65536
      · have hlt' : (k : Int) ≤ 65535 := by omega
        cases t0 : (hashI k 999999 == nth l 0) with
        | true =>
          have hu := Lib.hid (cnt_up (show accB (nth l 0) (nth l 1) k = true by rw [accB, t0]; rfl))
          go_wp2_with fail
          refine (l20Hash_any _ _).mono ?_
          rintro e w' ⟨rfl, rfl⟩
          go_wp2
          go_round
          case rel => exact ⟨k + 1, by omega, by go_num, by rw [hu.out]; go_num⟩
          case measure => simp [intOf]; omega
        | false =>
          cases t1 : (hashI k 999999 == nth l 1) with
          | true =>
            have hu := Lib.hid (cnt_up (show accB (nth l 0) (nth l 1) k = true by rw [accB, t0, t1]; rfl))
            go_wp2_with fail
            refine (l20Hash_any _ _).mono ?_
            rintro e w' ⟨rfl, rfl⟩
            go_wp2
            go_round
            case rel => exact ⟨k + 1, by omega, by go_num, by rw [hu.out]; go_num⟩
            case measure => simp [intOf]; omega
          | false =>
            have hu := Lib.hid (cnt_same (show accB (nth l 0) (nth l 1) k = false by rw [accB, t0, t1]; rfl))
            go_wp2_with fail
            refine (l20Hash_any _ _).mono ?_
            rintro e w' ⟨rfl, rfl⟩
            go_wp2
            go_round
            case rel => exact ⟨k + 1, by omega, by go_num, by rw [hu.out]⟩
            case measure => simp [intOf]; omega
      · have hk6 : k = 65536 := by omega
        subst hk6
        go_wp2
        go_ret
        exact ⟨ret_int HE.out.symm, Below.refl _ _⟩
  · have HE := Lib.hid (show countAcc l = 0 by rw [countAcc, if_neg (by rw [hl.out]; exact h2)])
    have hne : ((n : Int) == 2) = false := by simp; omega
    go_enter Try.func34, Try.ntmps34
    go_wp2; refine wp_loop_rounds 1 ?_; rw [rounds_succ]; go_wp2
    go_ret
    exact ⟨ret_int HE.out.symm, Below.refl _ _⟩
set_option maxRecDepth 100000 in
theorem iCountAccepted_L {A : Option Addr} {n c : Nat} {l : List Int} {w : World} (h : RdL w [(.slice A n c, .ints l)]) (hn : l.length ≤ 1048576) :
    Calls Try.prog 36 #[.slice A n c] w fun e w' => e = .returned (.int .i64 (countAcc l)) ∧ Below w.heap.size w w' := by
  obtain ⟨A', n', c', e, hI⟩ := h.ints
  cases e
  have hl := Lib.hid hI.len
  clear h
  have hn2 : n ≤ 1048576 := by rw [← hl.out]; exact hn
  clear hn
  by_cases h2 : n = 2
  · subst h2
    have HE := Lib.hid (show countAcc l = (cnt (accB (nth l 0) (nth l 1)) 65536 : Nat) by rw [countAcc, if_pos hl.out])
    obtain ⟨g, o, rfl, hg, hc⟩ := hI.block (by omega)
    have c0 := hc 0 (by omega)
    have c1 := hc 1 (by omega)
    clear hc
    simp only [Nat.add_zero] at c0
    go_enter Try.func36, Try.ntmps36
    go_wp2
    go_loop [3, 4] (fun s i => ∃ k : Nat, k ≤ 65536 ∧ i = .int .i64 k ∧ s = .int .i64 (cnt (accB (nth l 0) (nth l 1)) k : Nat)) (fun _ i => 65536 - (intOf i).toNat)
    case atStart => exact ⟨0, by omega, rfl, rfl⟩
    case round =>
      obtain ⟨k, hk, rfl, rfl⟩ := hrel
      have hcl := cnt_le (accB (nth l 0) (nth l 1)) k
      by_cases hlt : k < 65536
      · have hlt' : (k : Int) ≤ 65535 := by omega
        cases t0 : (hashI k 999999 == nth l 0) with
        | true =>
          have hu := Lib.hid (cnt_up (show accB (nth l 0) (nth l 1) k = true by rw [accB, t0]; rfl))
          go_wp2_with fail
          refine (iHashLabel_any _ _ _).mono ?_
          rintro e w' ⟨rfl, rfl⟩
          go_wp2
          go_round
          case rel => exact ⟨k + 1, by omega, by go_num, by rw [hu.out]; go_num⟩
          case measure => simp [intOf]; omega
        | false =>
          cases t1 : (hashI k 999999 == nth l 1) with
          | true =>
            have hu := Lib.hid (cnt_up (show accB (nth l 0) (nth l 1) k = true by rw [accB, t0, t1]; rfl))
            go_wp2_with fail
            refine (iHashLabel_any _ _ _).mono ?_
            rintro e w' ⟨rfl, rfl⟩
            go_wp2
            go_round
            case rel => exact ⟨k + 1, by omega, by go_num, by rw [hu.out]; go_num⟩
            case measure => simp [intOf]; omega
          | false =>
            have hu := Lib.hid (cnt_same (show accB (nth l 0) (nth l 1) k = false by rw [accB, t0, t1]; rfl))
            go_wp2_with fail
            refine (iHashLabel_any _ _ _).mono ?_
            rintro e w' ⟨rfl, rfl⟩
            go_wp2
            go_round
            case rel => exact ⟨k + 1, by omega, by go_num, by rw [hu.out]⟩
            case measure => simp [intOf]; omega
      · have hk6 : k = 65536 := by omega
        subst hk6
        go_wp2
        go_ret
        exact ⟨ret_int HE.out.symm, Below.refl _ _⟩
  · have HE := Lib.hid (show countAcc l = 0 by rw [countAcc, if_neg (by rw [hl.out]; exact h2)])
    have hne : ((n : Int) == 2) = false := by simp; omega
    go_enter Try.func36, Try.ntmps36
    go_wp2
    go_ret
    exact ⟨ret_int HE.out.symm, Below.refl _ _⟩
end Go.Proofs.Ytodnahpegecpiaa

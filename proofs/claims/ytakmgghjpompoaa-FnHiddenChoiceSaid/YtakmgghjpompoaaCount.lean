/- Contracts of CountAsks. -/
import Derived.Test.YtakmgghjpompoaaOt
namespace Go.Proofs.Ytakmgghjpompoaa
set_option linter.unusedSimpArgs false
set_option linter.unusedVariables false
open Go.RowKit
/-- Does the k-th coin give the message d? -/
def askHit (b d : Int) (k : Nat) : Bool := inB b 0 1 && (otAsk b k == d)
def cntA (b d : Int) : Nat → Int
  | 0 => 0
  | k + 1 => cntA b d k + if askHit b d k then 1 else 0
theorem cntA_bd (b d : Int) : ∀ k : Nat, 0 ≤ cntA b d k ∧ cntA b d k ≤ k
  | 0 => by simp [cntA]
  | k + 1 => by have := cntA_bd b d k; unfold cntA; split <;> omega
theorem cntA_no {b d : Int} (h : inB b 0 1 = false) : ∀ k : Nat, cntA b d k = 0
  | 0 => rfl
  | k + 1 => by rw [cntA, cntA_no h k]; simp [askHit, h]
theorem cntA_up {b d : Int} {k : Nat} (h : askHit b d k = true) : cntA b d (k + 1) = cntA b d k + 1 := by simp [cntA, h]
theorem cntA_same {b d : Int} {k : Nat} (h : askHit b d k = false) : cntA b d (k + 1) = cntA b d k := by simp [cntA, h]
theorem iCountAsks_any (b d : Int) (w : World) :
    Calls Try.prog 33 #[.int .i64 b, .int .i64 d] w fun e w' => e = .returned (.int .i64 (cntA b d 2)) ∧ Below w.heap.size w w' := by
  go_enter Try.func33, Try.ntmps33
  go_wp2
  go_loopw [5, 6] (fun n i wr => ∃ k : Nat, k ≤ 2 ∧ i = .int .i64 k ∧ n = .int .i64 (cntA b d k) ∧ Below w.heap.size w wr) (fun _ i _ => 2 - (intOf i).toNat)
  case atStart => exact ⟨0, by omega, rfl, rfl, Below.refl _ _⟩
  case round =>
    obtain ⟨k, hk, rfl, rfl, hb1⟩ := hrel
    have hbd := cntA_bd b d k
    by_cases hlt : k < 2
    · by_cases hB : inB b 0 1 = true
      · go_wp2_with (first | (go_at_call 70; refine (within_any _ _ _ _).mono ?_; rintro e w' ⟨rfl, rfl⟩) | (go_at_call 28; refine (iOtAsk_any _ _ _ _).mono ?_; rintro e w' ⟨rfl, hb2⟩))
        · have hh : askHit b d k = true := by simp only [askHit, hB, Bool.true_and]; assumption
          go_roundw
          case rel => exact ⟨k + 1, by omega, by go_num, by rw [cntA_up hh], hb1.trans (hb2.mono (by have := hb1.size; omega))⟩
          case measure => simp [intOf]; omega
        · have hh : askHit b d k = false := by simp only [askHit, hB, Bool.true_and]; assumption
          go_roundw
          case rel => exact ⟨k + 1, by omega, by go_num, by rw [cntA_same hh], hb1.trans (hb2.mono (by have := hb1.size; omega))⟩
          case measure => simp [intOf]; omega
      · have hB' : inB b 0 1 = false := by simpa using hB
        have hh : askHit b d k = false := by simp [askHit, hB']
        go_wp2_with (go_at_call 70; refine (within_any _ _ _ _).mono ?_; rintro e w' ⟨rfl, rfl⟩)
        go_roundw
        case rel => exact ⟨k + 1, by omega, by go_num, by rw [cntA_same hh], hb1⟩
        case measure => simp [intOf]; omega
    · go_wp2
      go_ret
      obtain rfl : k = 2 := by omega
      exact ⟨rfl, hb1⟩
theorem sCountAsks_any (b d : Int) (w : World) :
    Calls Try.prog 32 #[.int .i64 b, .int .i64 d] w fun e w' => e = .returned (.int .i64 (cntA b d 2)) ∧ Below w.heap.size w w' := by
  go_enter Try.func32, Try.ntmps32
  go_wp2
  go_loopw [5, 6] (fun n i wr => ∃ k : Nat, k ≤ 2 ∧ i = .int .i64 k ∧ n = .int .i64 (cntA b d k) ∧ Below w.heap.size w wr) (fun _ i _ => 2 - (intOf i).toNat)
  case atStart => exact ⟨0, by omega, rfl, rfl, Below.refl _ _⟩
  case round =>
    obtain ⟨k, hk, rfl, rfl, hb1⟩ := hrel
    have hbd := cntA_bd b d k
    by_cases hB : inB b 0 1 = true
    · by_cases hlt : k ≤ 1
      · go_wp2_with (first | (go_at_call 69; refine (l01In_any _ _ _ _).mono ?_; rintro e w' ⟨rfl, rfl⟩) | (go_at_call 26; refine (sOtAsk_any _ _ _ _).mono ?_; rintro e w' ⟨rfl, hb2⟩))
        · have hh : askHit b d k = true := by simp only [askHit, hB, Bool.true_and]; assumption
          go_roundw
          case rel => exact ⟨k + 1, by omega, by go_num, by rw [cntA_up hh], hb1.trans (hb2.mono (by have := hb1.size; omega))⟩
          case measure => simp [intOf]; omega
        · have hh : askHit b d k = false := by simp only [askHit, hB, Bool.true_and]; assumption
          go_roundw
          case rel => exact ⟨k + 1, by omega, by go_num, by rw [cntA_same hh], hb1.trans (hb2.mono (by have := hb1.size; omega))⟩
          case measure => simp [intOf]; omega
      · go_wp2
        go_ret
        obtain rfl : k = 2 := by omega
        exact ⟨rfl, hb1⟩
    · have hB' : inB b 0 1 = false := by simpa using hB
      have H := Lib.hid (cntA_no (d := d) hB')
      by_cases hlt : k ≤ 1
      · go_wp2_with (go_at_call 69; refine (l01In_any _ _ _ _).mono ?_; rintro e w' ⟨rfl, rfl⟩)
        go_ret
        exact ⟨ret_int (by rw [H.out, H.out]), hb1⟩
      · go_wp2
        go_ret
        exact ⟨ret_int (by rw [H.out, H.out]), hb1⟩
theorem walk_FnExactCountAsks (b d : Int) (w : World) :
    Calls Try.prog 6 #[.int .i64 b, .int .i64 d] w fun e w' => e = .returned (.bool true) ∧ Below w.heap.size w w' := by
  go_enter Try.func6, Try.ntmps6
  go_wp2_with fail; refine (sCountAsks_any _ _ _).mono ?_; rintro e w1 ⟨rfl, hb1⟩; obtain ⟨hc1, hf1⟩ := bcell hb1; have hz1 := hb1.size; (try simp only [World.size_alloc] at hz1 hc1 hf1); (try have : w.heap.size < w1.heap.size := (by omega)); (try have : w.heap.size + 1 < w1.heap.size := (by omega)); (try have : w.heap.size + 2 < w1.heap.size := (by omega)); (try have : w.heap.size + 3 < w1.heap.size := (by omega)); (try have : w.heap.size + 4 < w1.heap.size := (by omega))
  go_wp2_with fail; refine (iCountAsks_any _ _ _).mono ?_; rintro e w2 ⟨rfl, hb2⟩; obtain ⟨hc2, hf2⟩ := bcell hb2; have hz2 := hb2.size; (try simp only [World.size_alloc] at hz2 hc2 hf2); (try have : w.heap.size < w2.heap.size := (by omega)); (try have : w.heap.size + 1 < w2.heap.size := (by omega)); (try have : w.heap.size + 2 < w2.heap.size := (by omega)); (try have : w.heap.size + 3 < w2.heap.size := (by omega)); (try have : w.heap.size + 4 < w2.heap.size := (by omega)); (try have : w1.heap.size < w2.heap.size := (by omega)); (try have : w1.heap.size + 1 < w2.heap.size := (by omega)); (try have : w1.heap.size + 2 < w2.heap.size := (by omega)); (try have : w1.heap.size + 3 < w2.heap.size := (by omega)); (try have : w1.heap.size + 4 < w2.heap.size := (by omega))
  go_wp2
  go_ret
  refine ⟨rfl, ?_⟩
  repeat (first | exact Below.refl _ _ | refine Below.alloc ?_ (by first | omega | (simp; done) | (simp; omega)) _ | refine Below.setCell ?_ (by first | omega | (simp; done) | (simp; omega)) _ | refine Below.drew ?_ | refine below_drewN ?_ _ | refine Below.trans ?_ (hb30.mono (by first | omega | (simp; done) | (simp; omega))) | refine Below.trans ?_ (hb29.mono (by first | omega | (simp; done) | (simp; omega))) | refine Below.trans ?_ (hb28.mono (by first | omega | (simp; done) | (simp; omega))) | refine Below.trans ?_ (hb27.mono (by first | omega | (simp; done) | (simp; omega))) | refine Below.trans ?_ (hb26.mono (by first | omega | (simp; done) | (simp; omega))) | refine Below.trans ?_ (hb25.mono (by first | omega | (simp; done) | (simp; omega))) | refine Below.trans ?_ (hb24.mono (by first | omega | (simp; done) | (simp; omega))) | refine Below.trans ?_ (hb23.mono (by first | omega | (simp; done) | (simp; omega))) | refine Below.trans ?_ (hb22.mono (by first | omega | (simp; done) | (simp; omega))) | refine Below.trans ?_ (hb21.mono (by first | omega | (simp; done) | (simp; omega))) | refine Below.trans ?_ (hb20.mono (by first | omega | (simp; done) | (simp; omega))) | refine Below.trans ?_ (hb19.mono (by first | omega | (simp; done) | (simp; omega))) | refine Below.trans ?_ (hb18.mono (by first | omega | (simp; done) | (simp; omega))) | refine Below.trans ?_ (hb17.mono (by first | omega | (simp; done) | (simp; omega))) | refine Below.trans ?_ (hb16.mono (by first | omega | (simp; done) | (simp; omega))) | refine Below.trans ?_ (hb15.mono (by first | omega | (simp; done) | (simp; omega))) | refine Below.trans ?_ (hb14.mono (by first | omega | (simp; done) | (simp; omega))) | refine Below.trans ?_ (hb13.mono (by first | omega | (simp; done) | (simp; omega))) | refine Below.trans ?_ (hb12.mono (by first | omega | (simp; done) | (simp; omega))) | refine Below.trans ?_ (hb11.mono (by first | omega | (simp; done) | (simp; omega))) | refine Below.trans ?_ (hb10.mono (by first | omega | (simp; done) | (simp; omega))) | refine Below.trans ?_ (hb9.mono (by first | omega | (simp; done) | (simp; omega))) | refine Below.trans ?_ (hb8.mono (by first | omega | (simp; done) | (simp; omega))) | refine Below.trans ?_ (hb7.mono (by first | omega | (simp; done) | (simp; omega))) | refine Below.trans ?_ (hb6.mono (by first | omega | (simp; done) | (simp; omega))) | refine Below.trans ?_ (hb5.mono (by first | omega | (simp; done) | (simp; omega))) | refine Below.trans ?_ (hb4.mono (by first | omega | (simp; done) | (simp; omega))) | refine Below.trans ?_ (hb3.mono (by first | omega | (simp; done) | (simp; omega))) | refine Below.trans ?_ (hb2.mono (by first | omega | (simp; done) | (simp; omega))) | refine Below.trans ?_ (hb1.mono (by first | omega | (simp; done) | (simp; omega))))
end Go.Proofs.Ytakmgghjpompoaa

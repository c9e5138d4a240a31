/- Contracts: are numbers bits? -/
import Derived.Test.YtodnahpegecpiaaSlices
namespace Go.Proofs.Ytodnahpegecpiaa
set_option linter.unusedSimpArgs false
set_option linter.unusedVariables false
open Go.RowKit
def bitB (x : Int) : Bool := inB x 0 1
def allBit (l : List Int) : Bool := l.all bitB
set_option maxRecDepth 100000 in
theorem areBits_any (A : Option Addr) (n c : Nat) (l : List Int) (w : World) (h : Ints w A n l) (hn : n ≤ 1099511627776) :
    Calls Try.prog 92 #[.slice A n c] w fun e w' => e = .returned (.bool (allBit l)) ∧ w = w' := by
  have hl := Lib.hid h.len
  go_enter Try.func92, Try.ntmps92
  go_wp2
  go_loop [7] (fun i => ∃ k : Nat, k ≤ n ∧ i = .int .i64 k ∧ (l.take k).all bitB = true) (fun i => n - (intOf i).toNat)
  case atStart => exact ⟨0, Nat.zero_le _, rfl, rfl⟩
  case round =>
    obtain ⟨k, hk, rfl, hall⟩ := hrel
    have H := Lib.hid hall
    clear hall
    by_cases hlt : k < n
    · obtain ⟨g, o, rfl, hg, hc⟩ := h.block (by omega)
      have hck := hc k hlt
      clear hc
      go_wp2_with (go_at_call 100; refine (within_any _ _ _ _).mono ?_; rintro e w' ⟨rfl, rfl⟩)
      · go_ret
        exact ⟨ret_bool (all_not (by rw [hl.out]; omega) (by simpa [bitB] using ‹(!inB (nth l k) 0 1) = true›)).symm, rfl⟩
      · have ht : bitB (nth l k) = true := by simpa [bitB] using ‹(!inB (nth l k) 0 1) = false›
        go_round
        case rel => exact ⟨k + 1, by omega, by go_num, all_snoc (by rw [hl.out]; omega) H.out ht⟩
        case measure => simp [intOf]; omega
    · go_wp2
      go_ret
      exact ⟨ret_bool (all_done (by rw [hl.out]; omega) H.out).symm, rfl⟩
def bitsOk (l : List Int) (n : Int) : Bool := allBit l && ((l.length : Int) == n)
set_option maxRecDepth 100000 in
theorem l13Bits_any (A : Option Addr) (n c : Nat) (l : List Int) (m : Int) (w : World) (h : Ints w A n l) (hn : n ≤ 1099511627776) :
    Calls Try.prog 94 #[.slice A n c, .int .i64 m] w fun e w' => e = .returned (.bool (bitsOk l m)) ∧ w = w' := by
  have hl := Lib.hid h.len
  go_enter Try.func94, Try.ntmps94
  go_wp2
  go_loop [5] (fun i => ∃ k : Nat, k ≤ n ∧ i = .int .i64 k ∧ (l.take k).all bitB = true) (fun i => n - (intOf i).toNat)
  case atStart => exact ⟨0, Nat.zero_le _, rfl, rfl⟩
  case round =>
    obtain ⟨k, hk, rfl, hall⟩ := hrel
    have H := Lib.hid hall
    clear hall
    by_cases hlt : k < n
    · obtain ⟨g, o, rfl, hg, hc⟩ := h.block (by omega)
      have hck := hc k hlt
      clear hc
      go_wp2_with (go_at_call 96; refine (l01In_any _ _ _ _).mono ?_; rintro e w' ⟨rfl, rfl⟩)
      · go_ret
        have hno : allBit l = false := all_not (by rw [hl.out]; omega) (by simpa [bitB] using ‹(!inB (nth l k) 0 1) = true›)
        exact ⟨ret_bool (by simp [bitsOk, hno]), rfl⟩
      · have ht : bitB (nth l k) = true := by simpa [bitB] using ‹(!inB (nth l k) 0 1) = false›
        go_round
        case rel => exact ⟨k + 1, by omega, by go_num, all_snoc (by rw [hl.out]; omega) H.out ht⟩
        case measure => simp [intOf]; omega
    · go_wp2
      go_ret
      have hy : allBit l = true := all_done (by rw [hl.out]; omega) H.out
      exact ⟨ret_bool (by simp [bitsOk, hy, hl.out]), rfl⟩
end Go.Proofs.Ytodnahpegecpiaa

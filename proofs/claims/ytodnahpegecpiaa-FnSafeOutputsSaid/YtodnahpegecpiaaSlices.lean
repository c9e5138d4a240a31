/- Contracts of the functions that look through a slice of numbers. -/
import Derived.Test.YtodnahpegecpiaaInts
namespace Go.Proofs.Ytodnahpegecpiaa
set_option linter.unusedSimpArgs false
set_option linter.unusedVariables false
open Go.RowKit
/-- A label. -/
def lab (x : Int) : Bool := inB x 0 65535
def allLab (l : List Int) : Bool := l.all lab
theorem iIsLabel_any (a : Int) (w : World) :
    Calls Try.prog 104 #[.int .i64 a] w fun e w' => e = .returned (.bool (lab a)) ∧ w = w' := by
  go_enter Try.func104, Try.ntmps104
  go_wp2_with (go_at_call 100; refine (within_any _ _ _ _).mono ?_; rintro e w' ⟨rfl, rfl⟩)
  go_ret
  exact ⟨rfl, rfl⟩
theorem areLabels_any (A : Option Addr) (n c : Nat) (l : List Int) (w : World) (h : Ints w A n l) (hn : n ≤ 1099511627776) :
    Calls Try.prog 91 #[.slice A n c] w fun e w' => e = .returned (.bool (allLab l)) ∧ w = w' := by
  have hl := Lib.hid h.len
  go_enter Try.func91, Try.ntmps91
  go_wp2
  go_loop [7] (fun i => ∃ k : Nat, k ≤ n ∧ i = .int .i64 k ∧ (l.take k).all lab = true) (fun i => n - (intOf i).toNat)
  case atStart => exact ⟨0, Nat.zero_le _, rfl, rfl⟩
  case round =>
    obtain ⟨k, hk, rfl, hall⟩ := hrel
    have H := Lib.hid hall
    clear hall
    by_cases hlt : k < n
    · obtain ⟨g, o, rfl, hg, hc⟩ := h.block (by omega)
      have hck := hc k hlt
      clear hc
      go_wp2_with (go_at_call 104; refine (iIsLabel_any _ _).mono ?_; rintro e w' ⟨rfl, rfl⟩)
      · go_ret
        exact ⟨ret_bool (all_not (by rw [hl.out]; omega) (by simpa using ‹(!lab (nth l k)) = true›)).symm, rfl⟩
      · have ht : lab (nth l k) = true := by simpa using ‹(!lab (nth l k)) = false›
        go_round
        case rel => exact ⟨k + 1, by omega, by go_num, all_snoc (by rw [hl.out]; omega) H.out ht⟩
        case measure => simp [intOf]; omega
    · go_wp2
      go_ret
      exact ⟨ret_bool (all_done (by rw [hl.out]; omega) H.out).symm, rfl⟩
end Go.Proofs.Ytodnahpegecpiaa

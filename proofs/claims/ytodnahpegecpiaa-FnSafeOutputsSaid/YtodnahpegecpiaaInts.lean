/- Contracts of the functions that only compute with numbers. -/
import Derived.Test.YtodnahpegecpiaaBase
namespace Go.Proofs.Ytodnahpegecpiaa
set_option linter.unusedSimpArgs false
set_option linter.unusedVariables false
open Go.RowKit

theorem within_any (a b c : Int) (w : World) :
    Calls Try.prog 100 #[.int .i64 a, .int .i64 b, .int .i64 c] w fun e w' => e = .returned (.bool (inB a b c)) ∧ w = w' := by
  go_enter Try.func100, Try.ntmps100
  go_wp2
  all_goals (go_ret; exact ⟨ret_bool (by simp [inB]; omega), rfl⟩)
theorem l01In_any (a b c : Int) (w : World) :
    Calls Try.prog 96 #[.int .i64 a, .int .i64 b, .int .i64 c] w fun e w' => e = .returned (.bool (inB a b c)) ∧ w = w' := by
  go_enter Try.func96, Try.ntmps96
  go_wp2
  all_goals (go_ret; exact ⟨ret_bool (by simp [inB]; omega), rfl⟩)
/-- A pool is in order. -/
def poolOk (s n b : Int) : Bool := inB s 1 1000 && inB b 0 s && inB n 0 b
end Go.Proofs.Ytodnahpegecpiaa

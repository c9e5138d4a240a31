/- Contracts of TapeList and TapeFork, the program's and the reference's. -/
import Derived.Test.YtodnahpegecpiaaTape
import Derived.Test.YtodnahpegecpiaaGen
import Derived.Test.YtodnahpegecpiaaOwnStep
import Derived.Test.YtodnahpegecpiaaChg
import Derived.Test.YtodnahpegecpiaaBox
namespace Go.Proofs.Ytodnahpegecpiaa
set_option linter.unusedSimpArgs false
set_option linter.unusedVariables false
open Go.RowKit
def tListOk (s a n k : Int) : Bool := inB k 0 1000 && inB n 1 65536 && tapeOk s a && decide (a + k ≤ 1000000)
/-- Numbers out of a tape. -/
def tapeL (s a n k : Int) : List Int := if tListOk s a n k then genL (fun i => tapeB s (a + i) n) k.toNat else []
def tapeLN (s a n k : Int) : Int := if tListOk s a n k then a + k else a
theorem tListOk_iff {s a n k : Int} : tListOk s a n k = true ↔ (0 ≤ k ∧ k ≤ 1000) ∧ (1 ≤ n ∧ n ≤ 65536) ∧ tapeOk s a = true ∧ a + k ≤ 1000000 := by
  simp only [tListOk, Bool.and_eq_true, inB_iff, decide_eq_true_eq, and_assoc]
theorem tapeOk_iff {s a : Int} : tapeOk s a = true ↔ (0 ≤ s ∧ s ≤ 4294967295) ∧ 0 ≤ a ∧ a ≤ 1000000 := by
  simp only [tapeOk, word, Bool.and_eq_true, inB_iff, and_assoc]
theorem tapeM_step {s a n k : Int} {i : Nat} (h : tListOk s a n k = true) (hi : (i : Int) < k) : tapeM s (a + i) n = a + i + 1 := by
  obtain ⟨h1, h2, h3, h4⟩ := tListOk_iff.1 h
  have h5 := tapeOk_iff.1 h3
  have hok : tapeOk s (a + i) = true := tapeOk_iff.2 (by omega)
  have hn : inB n 1 65536 = true := inB_iff.2 h2
  have hne : (a + (i : Int) != 1000000) = true := by simp; omega
  simp [tapeM, tapeN, hok, hn, hne]
theorem tapeL_yes {s a n k : Int} (h : tListOk s a n k = true) : tapeL s a n k = genL (fun i => tapeB s (a + i) n) k.toNat := by simp [tapeL, h]
theorem tapeL_no {s a n k : Int} (h : tListOk s a n k = false) : tapeL s a n k = [] := by simp [tapeL, h]
theorem tapeLN_yes {s a n k : Int} (h : tListOk s a n k = true) : tapeLN s a n k = a + k := by simp [tapeLN, h]
theorem tapeLN_no {s a n k : Int} (h : tListOk s a n k = false) : tapeLN s a n k = a := by simp [tapeLN, h]
theorem tapeL_len (s a n k : Int) : (tapeL s a n k).length ≤ 1000 := by
  unfold tapeL
  split
  · rename_i h
    have := tListOk_iff.1 h
    rw [genL_len]; omega
  · simp
end Go.Proofs.Ytodnahpegecpiaa

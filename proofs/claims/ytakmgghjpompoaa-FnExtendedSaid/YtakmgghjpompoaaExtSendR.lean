/- ExtSend's contracts, told of owned results. -/
import Derived.Test.YtakmgghjpompoaaExtSend
import Derived.Test.YtakmgghjpompoaaChg
namespace Go.Proofs.Ytakmgghjpompoaa
set_option linter.unusedSimpArgs false
set_option linter.unusedVariables false
open Go.RowKit
theorem sExtSend_R {v1 v2 : Value} {l1 l2 : List Int} {w : World} (s : Int) (h1 : Rd w v1 l1) (h2 : Rd w v2 l2) (hn : l1.length ≤ 1048576) (hm : l2.length ≤ 1048576) :
    Calls Try.prog 53 #[v1, v2, .int .i64 s] w fun e w' => ∃ v, e = .returned v ∧ NewR w w' v (extSendL l1 l2 s) ∧ Below w.heap.size w w' := by
  obtain ⟨A, n, c, rfl, hI⟩ := h1
  obtain ⟨B, m, d, rfl, hJ⟩ := h2
  refine (sExtSend_any A B n m c d l1 l2 s w hI hJ (by rw [← hI.len]; exact hn) (by rw [← hJ.len]; exact hm)).mono ?_
  rintro e w' ⟨v, rfl, h3, h4⟩
  exact ⟨v, rfl, h3.range, h4⟩
theorem iExtSend_R {v1 v2 : Value} {l1 l2 : List Int} {w : World} (s : Int) (h1 : Rd w v1 l1) (h2 : Rd w v2 l2) (hn : l1.length ≤ 1048576) (hm : l2.length ≤ 1048576) :
    Calls Try.prog 54 #[v1, v2, .int .i64 s] w fun e w' => ∃ v, e = .returned v ∧ NewR w w' v (extSendL l1 l2 s) ∧ Below w.heap.size w w' := by
  obtain ⟨A, n, c, rfl, hI⟩ := h1
  obtain ⟨B, m, d, rfl, hJ⟩ := h2
  refine (iExtSend_any A B n m c d l1 l2 s w hI hJ (by rw [← hI.len]; exact hn) (by rw [← hJ.len]; exact hm)).mono ?_
  rintro e w' ⟨v, rfl, h3, h4⟩
  exact ⟨v, rfl, h3.range, h4⟩
end Go.Proofs.Ytakmgghjpompoaa

/- ExtCheck's contracts, told of slices that read. -/
import Derived.Test.YtakmgghjpompoaaExtCheck
import Derived.Test.YtakmgghjpompoaaChg
namespace Go.Proofs.Ytakmgghjpompoaa
set_option linter.unusedSimpArgs false
set_option linter.unusedVariables false
open Go.RowKit
theorem sExtCheck_R {v1 v2 v3 v4 : Value} {l1 l2 l3 l4 : List Int} {w : World} (s : Int) (h1 : Rd w v1 l1) (h2 : Rd w v2 l2) (h3 : Rd w v3 l3) (h4 : Rd w v4 l4)
    (b1 : l1.length ≤ 1048576) (b2 : l2.length ≤ 1048576) (b3 : l3.length ≤ 1048576) (b4 : l4.length ≤ 1048576) :
    Calls Try.prog 55 #[v1, v2, v3, v4, .int .i64 s] w fun e w' => e = .returned (.bool (extCheckB l1 l2 l3 l4 s)) ∧ Below w.heap.size w w' := by
  obtain ⟨A1, n1, c1, rfl, i1⟩ := h1
  obtain ⟨A2, n2, c2, rfl, i2⟩ := h2
  obtain ⟨A3, n3, c3, rfl, i3⟩ := h3
  obtain ⟨A4, n4, c4, rfl, i4⟩ := h4
  exact sExtCheck_any A1 A2 A3 A4 n1 n2 n3 n4 c1 c2 c3 c4 l1 l2 l3 l4 s w i1 i2 i3 i4 (by rw [← i1.len]; exact b1) (by rw [← i2.len]; exact b2) (by rw [← i3.len]; exact b3) (by rw [← i4.len]; exact b4)
theorem iExtCheck_R {v1 v2 v3 v4 : Value} {l1 l2 l3 l4 : List Int} {w : World} (s : Int) (h1 : Rd w v1 l1) (h2 : Rd w v2 l2) (h3 : Rd w v3 l3) (h4 : Rd w v4 l4)
    (b1 : l1.length ≤ 1048576) (b2 : l2.length ≤ 1048576) (b3 : l3.length ≤ 1048576) (b4 : l4.length ≤ 1048576) :
    Calls Try.prog 56 #[v1, v2, v3, v4, .int .i64 s] w fun e w' => e = .returned (.bool (extCheckB l1 l2 l3 l4 s)) ∧ Below w.heap.size w w' := by
  obtain ⟨A1, n1, c1, rfl, i1⟩ := h1
  obtain ⟨A2, n2, c2, rfl, i2⟩ := h2
  obtain ⟨A3, n3, c3, rfl, i3⟩ := h3
  obtain ⟨A4, n4, c4, rfl, i4⟩ := h4
  exact iExtCheck_any A1 A2 A3 A4 n1 n2 n3 n4 c1 c2 c3 c4 l1 l2 l3 l4 s w i1 i2 i3 i4 (by rw [← i1.len]; exact b1) (by rw [← i2.len]; exact b2) (by rw [← i3.len]; exact b3) (by rw [← i4.len]; exact b4)
end Go.Proofs.Ytakmgghjpompoaa

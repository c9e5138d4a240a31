/- Structs with slices among the arguments, opened. -/
import Derived.Test.YtakmgghjpompoaaOpenS
import Derived.Test.YtakmgghjpompoaaHl
import Derived.Deep.Strs
namespace Go.Proofs.Ytakmgghjpompoaa
set_option linter.unusedSimpArgs false
set_option maxRecDepth 100000
set_option linter.unusedVariables false
open Go.ChangeShapes Go.WideShapes Go.ChangeAt Go.RowKit Go.Joins
section
variable {H : Type} {enc : TypeId × Value → H} {w : World} {base : Nat} {spare : Nat → Bool} {held : Bool} {r : Reach} {b0 : Nat} {v : Value} {d : DataW H} {p : List MemPlace}
theorem open_Rd1 {n : Nat} {y : DataW H × List MemPlace} {u : Value} (h : DataW.trod enc Try.prog w base spare held n 52 [u] = some y) : ∃ l, Rd0 w u l := by
  obtain ⟨A, n, c, l, rfl, h1, h2⟩ := open_Ints1 h
  exact ⟨l, A, n, c, rfl, h1, h2⟩
theorem open_Rd (hv : Value.okWide Try.prog w r b0 52 v) (h : DataW.Trod enc Try.prog w base spare held 52 v d p) : ∃ l, Rd0 w v l := by
  obtain ⟨A, n, c, l, rfl, h1, h2⟩ := open_Ints hv h
  exact ⟨l, A, n, c, rfl, h1, h2⟩
end
end Go.Proofs.Ytakmgghjpompoaa

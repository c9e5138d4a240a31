/- Structs with slices among the arguments, opened. -/
import Derived.Test.YtodnahpegecpiaaOpenS
import Derived.Test.YtodnahpegecpiaaHl
import Derived.Deep.Strs
namespace Go.Proofs.Ytodnahpegecpiaa
set_option linter.unusedSimpArgs false
set_option maxRecDepth 100000
set_option linter.unusedVariables false
open Go.ChangeShapes Go.WideShapes Go.ChangeAt Go.RowKit Go.Joins
section
variable {H : Type} {enc : TypeId × Value → H} {w : World} {base : Nat} {spare : Nat → Bool} {held : Bool} {r : Reach} {b0 : Nat} {v : Value} {d : DataW H} {p : List MemPlace}
theorem open_Rd1 {n : Nat} {y : DataW H × List MemPlace} {u : Value} (h : DataW.trod enc Try.prog w base spare held n 25 [u] = some y) : ∃ l, Rd0 w u l := by
  obtain ⟨A, n, c, l, rfl, h1, h2⟩ := open_Ints1 h
  exact ⟨l, A, n, c, rfl, h1, h2⟩
theorem open_Rd (hv : Value.okWide Try.prog w r b0 25 v) (h : DataW.Trod enc Try.prog w base spare held 25 v d p) : ∃ l, Rd0 w v l := by
  obtain ⟨A, n, c, l, rfl, h1, h2⟩ := open_Ints hv h
  exact ⟨l, A, n, c, rfl, h1, h2⟩
theorem open_Garbled (hv : Value.okWide Try.prog w r b0 75 v) (h : DataW.Trod enc Try.prog w base spare held 75 v d p) : ∃ (a : Int) (u u2 : Value) (l m : List Int), v = .agg #[.int .i64 a, u, u2] ∧ Rd0 w u l ∧ Rd0 w u2 m := by
  obtain ⟨v0, v1, v2, y0, y1, y2, n, rfl, _, _, h0, h1, h2⟩ := open_agg3 Try.underlying75 (by kernel_rfl) (by kernel_rfl) hv h
  obtain ⟨a, rfl, _⟩ := field_int h0
  obtain ⟨l, hl⟩ := open_Rd1 h1
  obtain ⟨m, hm⟩ := open_Rd1 h2
  exact ⟨a, _, _, l, m, rfl, hl, hm⟩
theorem open_Public (hv : Value.okWide Try.prog w r b0 81 v) (h : DataW.Trod enc Try.prog w base spare held 81 v d p) : ∃ (u u2 u3 : Value) (l m k : List Int), v = .agg #[u, u2, u3] ∧ Rd0 w u l ∧ Rd0 w u2 m ∧ Rd0 w u3 k := by
  obtain ⟨v0, v1, v2, y0, y1, y2, n, rfl, _, _, h0, h1, h2⟩ := open_agg3 Try.underlying81 (by kernel_rfl) (by kernel_rfl) hv h
  obtain ⟨l, hl⟩ := open_Rd1 h0
  obtain ⟨m, hm⟩ := open_Rd1 h1
  obtain ⟨k, hk⟩ := open_Rd1 h2
  exact ⟨_, _, _, l, m, k, rfl, hl, hm, hk⟩
end
end Go.Proofs.Ytodnahpegecpiaa

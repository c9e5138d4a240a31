/- Structs with slices among the arguments, opened. -/
import Derived.Test.YtllnnbmgdbinnaaOpenS
import Derived.Test.YtllnnbmgdbinnaaHl
import Derived.Deep.Strs
namespace Go.Proofs.Ytllnnbmgdbinnaa
set_option linter.unusedSimpArgs false
set_option maxRecDepth 100000
set_option linter.unusedVariables false
open Go.ChangeShapes Go.WideShapes Go.ChangeAt Go.RowKit Go.Joins
section
variable {H : Type} {enc : TypeId × Value → H} {w : World} {base : Nat} {spare : Nat → Bool} {held : Bool} {r : Reach} {b0 : Nat} {v : Value} {d : DataW H} {p : List MemPlace}
theorem open_Rd1 {n : Nat} {y : DataW H × List MemPlace} {u : Value} (h : DataW.trod enc Try.prog w base spare held n 27 [u] = some y) : ∃ l, Rd0 w u l := by
  obtain ⟨A, n, c, l, rfl, h1, h2⟩ := open_Ints1 h
  exact ⟨l, A, n, c, rfl, h1, h2⟩
theorem open_Rd (hv : Value.okWide Try.prog w r b0 27 v) (h : DataW.Trod enc Try.prog w base spare held 27 v d p) : ∃ l, Rd0 w v l := by
  obtain ⟨A, n, c, l, rfl, h1, h2⟩ := open_Ints hv h
  exact ⟨l, A, n, c, rfl, h1, h2⟩
theorem open_Keys (hv : Value.okWide Try.prog w r b0 30 v) (h : DataW.Trod enc Try.prog w base spare held 30 v d p) : ∃ (a : Int) (u : Value) (l : List Int), v = .agg #[.int .i64 a, u] ∧ Rd0 w u l := by
  obtain ⟨v0, v1, y0, y1, n, rfl, _, _, h0, h1⟩ := open_agg2 Try.underlying30 (by kernel_rfl) (by kernel_rfl) hv h
  obtain ⟨a, rfl, _⟩ := field_int h0
  obtain ⟨l, hl⟩ := open_Rd1 h1
  exact ⟨a, _, l, rfl, hl⟩
theorem open_Auth1 {n : Nat} {c0 c1 : Value} {y : DataW H × List MemPlace} (h : DataW.trod enc Try.prog w base spare held n 44 [c0, c1] = some y) : ∃ l m, Rd0 w c0 l ∧ Rd0 w c1 m := by
  obtain ⟨y0, y1, n, _, _, h0, h1⟩ := trod_struct2 Try.underlying44 h
  have e0 : ∃ y, DataW.trod enc Try.prog w base spare held n 27 [c0] = some y := ⟨_, h0⟩
  have e1 : ∃ y, DataW.trod enc Try.prog w base spare held n 27 [c1] = some y := ⟨_, h1⟩
  obtain ⟨_, e0⟩ := e0
  obtain ⟨_, e1⟩ := e1
  obtain ⟨l, hl⟩ := open_Rd1 e0
  obtain ⟨m, hm⟩ := open_Rd1 e1
  exact ⟨l, m, hl, hm⟩
theorem open_Auth (hv : Value.okWide Try.prog w r b0 44 v) (h : DataW.Trod enc Try.prog w base spare held 44 v d p) : ∃ (u u2 : Value) (l m : List Int), v = .agg #[u, u2] ∧ Rd0 w u l ∧ Rd0 w u2 m := by
  obtain ⟨v0, v1, y0, y1, n, rfl, _, _, h0, h1⟩ := open_agg2 Try.underlying44 (by kernel_rfl) (by kernel_rfl) hv h
  obtain ⟨l, hl⟩ := open_Rd1 h0
  obtain ⟨m, hm⟩ := open_Rd1 h1
  exact ⟨_, _, l, m, rfl, hl, hm⟩
theorem array6 {α : Type} {cs : Array α} (h : cs.size = 6) : ∃ c0 c1 c2 c3 c4 c5, cs = #[c0, c1, c2, c3, c4, c5] := by
  obtain ⟨l⟩ := cs
  match l, h with
  | [a, b, c, d, e, f], _ => exact ⟨a, b, c, d, e, f, rfl⟩
theorem open_Triple (hv : Value.okWide Try.prog w r b0 64 v) (h : DataW.Trod enc Try.prog w base spare held 64 v d p) :
    ∃ (u0 u1 u2 u3 u4 u5 : Value) (l0 l1 l2 l3 l4 l5 : List Int), v = .agg #[u0, u1, u2, u3, u4, u5] ∧ Rd0 w u0 l0 ∧ Rd0 w u1 l1 ∧ Rd0 w u2 l2 ∧ Rd0 w u3 l3 ∧ Rd0 w u4 l4 ∧ Rd0 w u5 l5 := by
  obtain ⟨cs, rfl, hsz⟩ := okWide_struct Try.underlying64 hv
  obtain ⟨c0, c1, c2, c3, c4, c5, rfl⟩ := array6 (hsz.trans (by kernel_rfl))
  obtain ⟨fuel, hf⟩ := h
  obtain ⟨y0, y1, y2, n, _, _, h0, h1, h2⟩ := Go.Deep.trod_struct3 Try.underlying64 hf
  have e0 : ∃ y, DataW.trod enc Try.prog w base spare held n 44 [c0, c1] = some y := ⟨_, h0⟩
  have e1 : ∃ y, DataW.trod enc Try.prog w base spare held n 44 [c2, c3] = some y := ⟨_, h1⟩
  have e2 : ∃ y, DataW.trod enc Try.prog w base spare held n 44 [c4, c5] = some y := ⟨_, h2⟩
  obtain ⟨_, e0⟩ := e0
  obtain ⟨_, e1⟩ := e1
  obtain ⟨_, e2⟩ := e2
  obtain ⟨l0, l1, a0, a1⟩ := open_Auth1 e0
  obtain ⟨l2, l3, a2, a3⟩ := open_Auth1 e1
  obtain ⟨l4, l5, a4, a5⟩ := open_Auth1 e2
  exact ⟨_, _, _, _, _, _, _, _, _, _, _, _, rfl, a0, a1, a2, a3, a4, a5⟩
theorem open_Opening (hv : Value.okWide Try.prog w r b0 90 v) (h : DataW.Trod enc Try.prog w base spare held 90 v d p) : ∃ a b : Int, v = .agg #[.int .i64 a, .int .i64 b] := by
  obtain ⟨v0, v1, y0, y1, n, rfl, _, _, h0, h1⟩ := open_agg2 Try.underlying90 (by kernel_rfl) (by kernel_rfl) hv h
  obtain ⟨a, rfl, _⟩ := field_int h0
  obtain ⟨b, rfl, _⟩ := field_int h1
  exact ⟨a, b, rfl⟩
end
end Go.Proofs.Ytllnnbmgdbinnaa

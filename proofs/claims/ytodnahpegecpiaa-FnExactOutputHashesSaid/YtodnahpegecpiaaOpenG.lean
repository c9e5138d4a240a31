/- Slices of gates among the arguments, and circuits, opened. -/
import Derived.Test.YtodnahpegecpiaaOpenK
import Derived.Test.YtodnahpegecpiaaGates
import Derived.Deep.Slices
namespace Go.Proofs.Ytodnahpegecpiaa
set_option linter.unusedSimpArgs false
set_option maxRecDepth 100000
set_option linter.unusedVariables false
open Go.ChangeShapes Go.WideShapes Go.ChangeAt Go.RowKit Go.Joins
section
variable {H : Type} {enc : TypeId × Value → H} {w : World} {base : Nat} {spare : Nat → Bool} {held : Bool} {r : Reach} {b0 : Nat} {v : Value} {d : DataW H} {p : List MemPlace}
theorem open_Gates1 {n : Nat} {y : DataW H × List MemPlace} {u : Value} (h : DataW.trod enc Try.prog w base spare held n 61 [u] = some y) : ∃ l, RdG0 w u l := by
  rcases Go.Deep.open_slice Try.underlying61 h with ⟨hcs, _⟩ | ⟨a, len, cap, m, n, D, Pl, hcs, hb, hl, hm, hmm, rfl, hx⟩
  · simp at hcs
    exact ⟨[], none, 0, 0, hcs, by unfold maxLen; omega, rfl, fun h => absurd h (by omega)⟩
  · simp at hcs
    have hle : len ≤ m := by rw [hmm]; split <;> omega
    have hG : ∀ i, i < len → ∃ k b c, w.cell? (a.add (i * 3)) = some (.int .i64 k) ∧ w.cell? (a.add (i * 3 + 1)) = some (.int .i64 b) ∧ w.cell? (a.add (i * 3 + 2)) = some (.int .i64 c) := by
      intro i hi
      obtain ⟨cs', h1, h2⟩ := hx i (by omega)
      rw [show Try.prog.cellsOf 121 = 3 by kernel_rfl] at h1
      obtain ⟨_, hlen, hcell⟩ := World.cells?_some h1
      match cs', hlen with
      | [v0, v1, v2], _ =>
        obtain ⟨y0, y1, y2, n2, _, _, f0, f1, f2⟩ := Go.Deep.trod_struct3 Try.underlying121 h2
        have g0 : ∃ y, DataW.trod enc Try.prog w base spare held n2 3 [v0] = some y := ⟨_, f0⟩
        have g1 : ∃ y, DataW.trod enc Try.prog w base spare held n2 3 [v1] = some y := ⟨_, f1⟩
        have g2 : ∃ y, DataW.trod enc Try.prog w base spare held n2 3 [v2] = some y := ⟨_, f2⟩
        obtain ⟨_, g0⟩ := g0
        obtain ⟨_, g1⟩ := g1
        obtain ⟨_, g2⟩ := g2
        obtain ⟨x0, rfl, _⟩ := field_int g0
        obtain ⟨x1, rfl, _⟩ := field_int g1
        obtain ⟨x2, rfl, _⟩ := field_int g2
        have e0 := hcell 0 (by omega)
        have e1 := hcell 1 (by omega)
        have e2 := hcell 2 (by omega)
        rw [Go.Deep.add_add] at e0 e1 e2
        exact ⟨x0, x1, x2, e0, e1, e2⟩
    by_cases h0 : len = 0
    · subst h0
      exact ⟨[], some a, 0, cap, hcs, by unfold maxLen; omega, rfl, fun h => absurd h (by omega)⟩
    obtain ⟨g, o, rfl⟩ : ∃ g o, a = ⟨g, o, none⟩ := by
      obtain ⟨k, b, c, e, _⟩ := hG 0 (by omega)
      obtain ⟨g, o, e2⟩ := addr_plain e
      refine ⟨g, o, ?_⟩
      simpa [Addr.add] using e2
    obtain ⟨V, hV⟩ := Go.Deep.choose_lt (α := Int × Int × Int) (n := len) (p := fun i x => w.cell? ⟨g, o + 3 * i, none⟩ = some (.int .i64 x.1) ∧ w.cell? ⟨g, o + 3 * i + 1, none⟩ = some (.int .i64 x.2.1) ∧ w.cell? ⟨g, o + 3 * i + 2, none⟩ = some (.int .i64 x.2.2)) (fun i hi => by
      obtain ⟨k, b, c, e0, e1, e2⟩ := hG i hi
      rw [Addr.add_lit] at e0 e1 e2
      refine ⟨(k, b, c), ?_, ?_, ?_⟩
      · rw [show 3 * i = i * 3 by omega]; exact e0
      · rw [show 3 * i = i * 3 by omega]; exact e1
      · rw [show 3 * i = i * 3 by omega]; exact e2)
    refine ⟨(List.range len).map V, _, len, cap, hcs, by omega, by simp, fun _ => ⟨g, o, rfl, fun j hj => ?_⟩⟩
    obtain ⟨e0, e1, e2⟩ := hV j hj
    exact ⟨(V j).1, (V j).2.1, (V j).2.2, by simp [hj], e0, e1, e2⟩
theorem open_Circuit (hv : Value.okWide Try.prog w r b0 63 v) (h : DataW.Trod enc Try.prog w base spare held 63 v d p) : ∃ (u u2 : Value) (l : List (Int × Int × Int)) (m : List Int), v = .agg #[u, u2] ∧ RdG0 w u l ∧ Rd0 w u2 m := by
  obtain ⟨v0, v1, y0, y1, n, rfl, _, _, h0, h1⟩ := open_agg2 Try.underlying63 (by kernel_rfl) (by kernel_rfl) hv h
  obtain ⟨l, hl⟩ := open_Gates1 h0
  obtain ⟨m, hm⟩ := open_Rd1 h1
  exact ⟨_, _, l, m, rfl, hl, hm⟩
end
end Go.Proofs.Ytodnahpegecpiaa

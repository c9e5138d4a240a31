/- Slices of slices of numbers among the arguments, opened; their helpers under one bound. -/
import Derived.Test.YtodnahpegecpiaaOpenK
import Derived.Test.YtodnahpegecpiaaGrid3
import Derived.Deep.Slices
namespace Go.Proofs.Ytodnahpegecpiaa
set_option linter.unusedSimpArgs false
set_option maxRecDepth 100000
set_option linter.unusedVariables false
open Go.ChangeShapes Go.WideShapes Go.ChangeAt Go.RowKit Go.Joins
section
variable {H : Type} {enc : TypeId × Value → H} {w : World} {base : Nat} {spare : Nat → Bool} {held : Bool} {r : Reach} {b0 : Nat} {v : Value} {d : DataW H} {p : List MemPlace}
theorem open_Grid (hv : Value.okWide Try.prog w r b0 54 v) (h : DataW.Trod enc Try.prog w base spare held 54 v d p) : ∃ ll, RdGr0 w v ll := by
  obtain ⟨a, len, cap, rfl⟩ := okWide_slice Try.underlying54 hv
  obtain ⟨fuel, hf⟩ := h
  rcases Go.Deep.open_slice1 Try.underlying54 (by kernel_rfl) hf with ⟨hcs, _⟩ | ⟨a, len, cap, m, n, V, D, Pl, hcs, hb, hl, hm, hmm, _, hx⟩
  · simp [Value.cells] at hcs
    obtain ⟨rfl, rfl, rfl⟩ := hcs
    exact ⟨[], ⟨[], rfl, ⟨_, _, _, rfl, rfl, fun h => absurd h (by omega)⟩, fun j hj => absurd hj (by simp)⟩, by simp, by simp⟩
  · simp [Value.cells] at hcs
    obtain ⟨rfl, rfl, rfl⟩ := hcs
    have hle : len ≤ m := by rw [hmm]; split <;> omega
    obtain ⟨L, hL⟩ := Go.Deep.choose_lt (α := List Int) (n := len) (p := fun i l => Rd0 w (V i) l) (fun i hi => open_Rd1 (hx i (by omega)).2)
    refine ⟨(List.range len).map L, ⟨(List.range len).map V, by simp, ⟨_, _, _, rfl, by simp, fun h0 => ?_⟩, fun j hj => ?_⟩, ?_, fun j => ?_⟩
    · obtain ⟨g, o, rfl⟩ : ∃ g o, a = ⟨g, o, none⟩ := by
        obtain ⟨g, o, e⟩ := addr_plain (hx 0 (by omega)).1
        refine ⟨g, o, ?_⟩
        simpa [Addr.add] using e
      refine ⟨g, o, rfl, fun j hj => ⟨V j, by simp [hj], ?_⟩⟩
      have hc := (hx j (by omega)).1
      rw [Addr.add_lit] at hc
      exact hc
    · simp at hj
      have := (hL j hj).rd
      simpa [List.getD, hj] using this
    · simp; omega
    · by_cases hj : j < len
      · obtain ⟨A, n', c, _, hm', hI⟩ := hL j hj
        have := hI.len
        simp [List.getD, hj]; omega
      · simp [List.getD, hj]
end
theorem toIntSS_L {v : Value} {ll : List (List Int)} {w : World} (h : RdGr w v ll) (ht : BdLL ll) :
    Calls Try.prog 41 #[v] w fun e w' => ∃ A n c, e = .returned (.slice A n c) ∧ OwnG w' w.heap.size w'.heap.size (.slice A n c) ll ∧ Below w.heap.size w w' := toIntSS_M h ht.1 ht.2.1
theorem eqIntSS_L {v v2 : Value} {ll : List (List Int)} {w : World} (h : RdGr w v ll) (h2 : RdGr w v2 ll) (ht : BdLL ll) :
    Calls Try.prog 43 #[v, v2] w fun e w' => e = .returned (.bool true) ∧ Below w.heap.size w w' := eqIntSS_M h h2 ht.1 ht.2.1
theorem BdLL.sum {ll : List (List Int)} (h : BdLL ll) : sumLen ll ll.length ≤ 4194304 := h.2.2
end Go.Proofs.Ytodnahpegecpiaa

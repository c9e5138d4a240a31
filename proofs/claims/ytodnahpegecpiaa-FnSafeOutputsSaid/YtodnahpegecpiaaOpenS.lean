/- Slices among the arguments, opened. -/
import Derived.Test.YtodnahpegecpiaaOpen
import Derived.Test.YtodnahpegecpiaaDraw
namespace Go.Proofs.Ytodnahpegecpiaa
set_option linter.unusedSimpArgs false
set_option maxRecDepth 100000
set_option linter.unusedVariables false
open Go.ChangeShapes Go.WideShapes Go.ChangeAt Go.RowKit Go.Joins
/-- A slice of bytes of whatever length. -/
def Bts0 (w : World) (A : Option Addr) (n : Nat) : Prop :=
  n ≤ maxLen ∧ (0 < n → ∃ g o, A = some ⟨g, o, none⟩ ∧ ∀ j, j < n → ∃ v : Int, 0 ≤ v ∧ v ≤ 255 ∧ w.cell? ⟨g, o + j, none⟩ = some (.int .u8 v))
section
variable {H : Type} {enc : TypeId × Value → H} {w : World} {base : Nat} {spare : Nat → Bool} {held : Bool} {r : Reach} {b0 : Nat} {v : Value} {d : DataW H} {p : List MemPlace}
theorem addr_plain {w : World} {a : Addr} {u : Value} (h : w.cell? a = some u) : ∃ g o, a = ⟨g, o, none⟩ := by
  obtain ⟨g, o, s⟩ := a
  have e : s = none := World.cell?_spot h
  subst e
  exact ⟨g, o, rfl⟩
theorem open_Bytes (hv : Value.okWide Try.prog w r b0 22 v) (h : DataW.Trod enc Try.prog w base spare held 22 v d p) : ∃ (A : Option Addr) (n c : Nat), v = .slice A n c ∧ Bts0 w A n := by
  obtain ⟨a, len, cap, rfl⟩ := okWide_slice Try.underlying22 hv
  obtain ⟨fuel, hf⟩ := h
  rcases open_ints Try.underlying22 Try.underlying5 (by kernel_rfl) hf with ⟨hcs, _⟩ | ⟨x, l, c, zs, hcs, _, hl, hm, hz, _, hcell, hwz⟩
  · simp [Value.cells] at hcs
    obtain ⟨rfl, rfl, rfl⟩ := hcs
    exact ⟨_, _, _, rfl, by unfold maxLen; omega, fun h => absurd h (by omega)⟩
  · simp [Value.cells] at hcs
    obtain ⟨rfl, rfl, rfl⟩ := hcs
    have hzl : len ≤ zs.length := by rw [hz]; split <;> omega
    refine ⟨_, _, _, rfl, Nat.le_trans hl hm, fun hn => ?_⟩
    have hc0 := hcell 0 (by omega)
    obtain ⟨g, o, rfl⟩ : ∃ g o, x = ⟨g, o, none⟩ := by
      obtain ⟨g, o, e⟩ := addr_plain hc0
      refine ⟨g, o, ?_⟩
      simpa [Addr.add] using e
    refine ⟨g, o, rfl, fun j hj => ?_⟩
    have hcj := hcell j (by omega)
    rw [Addr.add_lit] at hcj
    have hw := bounds_u8 (hwz (zs.getD j 0) (by simp [List.getD, show j < zs.length by omega]))
    exact ⟨_, hw.1, hw.2, hcj⟩
/-- A slice of ints of whatever length. -/
def Ints0 (w : World) (A : Option Addr) (n : Nat) (l : List Int) : Prop := n ≤ maxLen ∧ Ints w A n l
theorem open_Ints1 {n : Nat} {y : DataW H × List MemPlace} {u : Value} (h : DataW.trod enc Try.prog w base spare held n 25 [u] = some y) : ∃ (A : Option Addr) (n c : Nat) (l : List Int), u = .slice A n c ∧ Ints0 w A n l := by
  rcases open_ints Try.underlying25 Try.underlying3 (by kernel_rfl) h with ⟨hcs, _⟩ | ⟨x, len, cap, zs, hcs, _, hl, hm, hz, _, hcell, hwz⟩
  · simp at hcs
    exact ⟨_, _, _, [], hcs, by unfold maxLen; omega, Ints.nil⟩
  · simp at hcs
    have hzl : len ≤ zs.length := by rw [hz]; split <;> omega
    refine ⟨_, _, _, zs.take len, hcs, Nat.le_trans hl hm, by simp; omega, fun hn => ?_⟩
    have hc0 := hcell 0 (by omega)
    obtain ⟨g, o, rfl⟩ : ∃ g o, x = ⟨g, o, none⟩ := by
      obtain ⟨g, o, e⟩ := addr_plain hc0
      refine ⟨g, o, ?_⟩
      simpa [Addr.add] using e
    refine ⟨g, o, rfl, fun j hj => ?_⟩
    have hcj := hcell j (by omega)
    rw [Addr.add_lit] at hcj
    rw [hcj]
    simp [nth, List.getD, List.getElem?_take, hj]
theorem open_Ints (hv : Value.okWide Try.prog w r b0 25 v) (h : DataW.Trod enc Try.prog w base spare held 25 v d p) : ∃ (A : Option Addr) (n c : Nat) (l : List Int), v = .slice A n c ∧ Ints0 w A n l := by
  obtain ⟨a, len, cap, rfl⟩ := okWide_slice Try.underlying25 hv
  obtain ⟨fuel, hf⟩ := h
  exact open_Ints1 (u := .slice a len cap) (by simpa [Value.cells] using hf)
end
theorem big_any (n c : Nat) (A : Option Addr) (w : World) :
    Calls Try.prog 22 #[.slice A n c] w fun e w' => e = .returned (.bool (decide ((1048576 : Int) < n))) ∧ w = w' := by
  go_enter Try.func22, Try.ntmps22
  go_wp2
  go_ret
  exact ⟨rfl, rfl⟩
end Go.Proofs.Ytodnahpegecpiaa

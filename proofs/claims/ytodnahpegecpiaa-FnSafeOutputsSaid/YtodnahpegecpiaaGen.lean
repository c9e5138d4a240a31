/- Lists that a loop builds index by index. -/
import Derived.Test.YtodnahpegecpiaaOwn
namespace Go.Proofs.Ytodnahpegecpiaa
set_option linter.unusedSimpArgs false
set_option linter.unusedVariables false
def genL (f : Nat → Int) (n : Nat) : List Int := (List.range n).map f
theorem genL_len (f : Nat → Int) (n : Nat) : (genL f n).length = n := by simp [genL]
theorem genL_snoc (f : Nat → Int) (n : Nat) : genL f (n + 1) = genL f n ++ [f n] := by simp [genL, List.range_succ]
theorem genL_nth {f : Nat → Int} {n j : Nat} (h : j < n) : nth (genL f n) j = f j := by rw [nth_lt (by simp [genL, h])]; simp [genL]
theorem genL_zero (f : Nat → Int) : genL f 0 = [] := rfl
theorem genL_congr {f g : Nat → Int} {n : Nat} (h : ∀ j, j < n → f j = g j) : genL f n = genL g n := by
  unfold genL
  exact List.map_congr_left fun j hj => h j (List.mem_range.1 hj)
theorem nth_map {f : Int → Int} {l : List Int} {j : Nat} (h : j < l.length) : nth (l.map f) j = f (nth l j) := by rw [nth_lt (by simpa using h), nth_lt h]; simp
/-- A list is known by its length and its entries. -/
theorem list_ext {l m : List Int} (hl : l.length = m.length) (h : ∀ j, j < l.length → nth l j = nth m j) : l = m :=
  List.ext_getElem hl fun j h1 h2 => by rw [← nth_lt h1, ← nth_lt h2]; exact h j h1
end Go.Proofs.Ytodnahpegecpiaa

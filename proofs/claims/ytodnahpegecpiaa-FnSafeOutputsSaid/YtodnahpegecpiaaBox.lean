/- Blocks of cells: a struct's box, followed over calls and stores. -/
import Derived.Test.YtodnahpegecpiaaOwn
import Derived.Test.YtodnahpegecpiaaDraw
namespace Go.Proofs.Ytodnahpegecpiaa
set_option linter.unusedSimpArgs false
set_option linter.unusedVariables false
open Go.RowKit
theorem size_drew (w : World) : w.drew.heap.size = w.heap.size := rfl
/-- A block of cells. -/
def Box (w : World) (g : Nat) (cs : Array Value) (t : TypeId) : Prop := w.heap[g]? = some (.cells cs t (0, 0))
section
variable {w w' : World} {g B : Nat} {cs : Array Value} {t : TypeId}
theorem Box.lt (h : Box w g cs t) : g < w.heap.size := lt_of_block h
theorem Box.cell (h : Box w g cs t) (i : Nat) : w.cell? ⟨g, i, none⟩ = cs[i]? := Joins.cell_of_block h i
theorem Box.frozen (h : Box w g cs t) (i : Nat) : w.frozen? ⟨g, i, none⟩ = false := Joins.unfrozen_of_block h i
theorem Box.below (h : Box w g cs t) (hb : Below B w w') (hg : g < B) : Box w' g cs t := (hb.block g hg).trans h
theorem Box.new (w : World) (cs : Array Value) (t : TypeId) (hg : g = w.heap.size) : Box (w.alloc (.cells cs t)) g cs t := by subst hg; exact heap_alloc_new w _
theorem Box.alloc (h : Box w g cs t) (o : Obj) : Box (w.alloc o) g cs t := (Below.heap_alloc w o g h.lt).trans h
theorem Box.setAt {ds : Array Value} (h : Box w g cs t) {i : Nat} {v : Value} (e : cs.setIfInBounds i v = ds) : Box (w.setCell ⟨g, i, none⟩ v) g ds t := by subst e; exact Joins.block_setCell h v
theorem Box.set (h : Box w g cs t) (i : Nat) (v : Value) : Box (w.setCell ⟨g, i, none⟩ v) g (cs.setIfInBounds i v) t := Joins.block_setCell h v
theorem Box.set0 {a b v : Value} (h : Box w g #[a, b] t) : Box (w.setCell ⟨g, 0, none⟩ v) g #[v, b] t := by have := h.set 0 v; simpa using this
theorem Box.set1 {a b v : Value} (h : Box w g #[a, b] t) : Box (w.setCell ⟨g, 1, none⟩ v) g #[a, v] t := by have := h.set 1 v; simpa using this
theorem Box.far {k i : Nat} {v : Value} (h : Box w g cs t) (hne : g ≠ k) : Box (w.setCell ⟨k, i, none⟩ v) g cs t := (Below.heap_setCell _ _ _ _ hne).trans h
theorem Box.far' {k i : Nat} {v : Value} (hne : g ≠ k) (h : Box w g cs t) : Box (w.setCell ⟨k, i, none⟩ v) g cs t := h.far hne
theorem Box.only {row : Option Nat} (h : Box w g cs t) (hg : w.grownBy w' row) (hne : some g ≠ row) : Box w' g cs t := (hg.block g h.lt hne).trans h
theorem Box.two {a b : Value} (h : Box w g #[a, b] t) : w.cell? ⟨g, 0, none⟩ = some a ∧ w.cell? ⟨g, 1, none⟩ = some b ∧ w.frozen? ⟨g, 0, none⟩ = false ∧ w.frozen? ⟨g, 1, none⟩ = false := ⟨h.cell 0, h.cell 1, h.frozen 0, h.frozen 1⟩
theorem Box.three {a b c : Value} (h : Box w g #[a, b, c] t) : w.cell? ⟨g, 0, none⟩ = some a ∧ w.cell? ⟨g, 1, none⟩ = some b ∧ w.cell? ⟨g, 2, none⟩ = some c ∧ w.frozen? ⟨g, 0, none⟩ = false ∧ w.frozen? ⟨g, 1, none⟩ = false ∧ w.frozen? ⟨g, 2, none⟩ = false := ⟨h.cell 0, h.cell 1, h.cell 2, h.frozen 0, h.frozen 1, h.frozen 2⟩
theorem Box.six {a b c d e f : Value} (h : Box w g #[a, b, c, d, e, f] t) : w.cell? ⟨g, 0, none⟩ = some a ∧ w.cell? ⟨g, 1, none⟩ = some b ∧ w.cell? ⟨g, 2, none⟩ = some c ∧ w.cell? ⟨g, 3, none⟩ = some d ∧ w.cell? ⟨g, 4, none⟩ = some e ∧ w.cell? ⟨g, 5, none⟩ = some f ∧
    w.frozen? ⟨g, 0, none⟩ = false ∧ w.frozen? ⟨g, 1, none⟩ = false ∧ w.frozen? ⟨g, 2, none⟩ = false ∧ w.frozen? ⟨g, 3, none⟩ = false ∧ w.frozen? ⟨g, 4, none⟩ = false ∧ w.frozen? ⟨g, 5, none⟩ = false :=
  ⟨h.cell 0, h.cell 1, h.cell 2, h.cell 3, h.cell 4, h.cell 5, h.frozen 0, h.frozen 1, h.frozen 2, h.frozen 3, h.frozen 4, h.frozen 5⟩
theorem Box.drewN (h : Box w g cs t) (n : Nat) : Box (w.drewN n) g cs t := h
theorem Box.drew (h : Box w g cs t) : Box w.drew g cs t := h
end
theorem Own.notBox {w : World} {base g : Nat} {v : Value} {l : List Int} (h : Own w base v l) (hg : g < base) : some g ≠ v.ownBlock := fun e => by have := (h.block g e.symm).1; omega
theorem Own.notNew {w : World} {base g : Nat} {v : Value} {l : List Int} (h : Own w base v l) (hg : w.heap.size ≤ g) : some g ≠ v.ownBlock := fun e => by have := (h.block g e.symm).2; omega
theorem Own.setBox {w : World} {base g i : Nat} {u v : Value} {l : List Int} (h : Own w base v l) (hg : g < base) : Own (w.setCell ⟨g, i, none⟩ u) base v l := h.only hg (Only.setCell g i w u)
end Go.Proofs.Ytodnahpegecpiaa

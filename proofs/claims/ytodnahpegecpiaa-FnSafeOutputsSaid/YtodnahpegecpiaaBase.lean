/- Words and small lemmas that all walks of this seat share: no function of the program is named here. -/
import Derived.Test.YtodnahpegecpiaaRows
import Derived.WalkKit
import Derived.WalkSpells
import Derived.WalkLawsBesides
import Derived.Lib.Hide
import Derived.Deep.QuietTactic
import Derived.BigQuiet
namespace Go.Proofs.Ytodnahpegecpiaa
set_option linter.unusedSimpArgs false
set_option linter.unusedVariables false
open Go.RowKit

theorem layA {α : Type} (l : List α) (i : Nat) (a : α) : l.toArray.setIfInBounds i a = (l.set i a).toArray := List.setIfInBounds_toArray ..
theorem layB {α : Type} (a b : α) (l : List α) : (a :: l).set 0 b = b :: l := rfl
theorem layC {α : Type} (a b : α) (l : List α) (n : Nat) : (a :: l).set (n + 1) b = a :: l.set n b := rfl
theorem ret_bool {a b : Bool} (h : a = b) : Ending.returned (.bool a) = .returned (.bool b) := by rw [h]
theorem ret_int {k : IntKind} {a b : Int} (h : a = b) : Ending.returned (.int k a) = .returned (.int k b) := by rw [h]

theorem ret_pair {k k' : IntKind} {a b a' b' : Int} (h : a = b) (h' : a' = b') : Ending.returned (.tuple #[.int k a, .int k' a']) = .returned (.tuple #[.int k b, .int k' b']) := by rw [h, h']
theorem bcell {W w1 : World} (hb : Below W.heap.size W w1) : (∀ b o, b < W.heap.size → w1.cell? ⟨b, o, none⟩ = W.cell? ⟨b, o, none⟩) ∧ (∀ b o, b < W.heap.size → w1.frozen? ⟨b, o, none⟩ = W.frozen? ⟨b, o, none⟩) :=
  ⟨fun b o h => hb.cell (p := ⟨b, o, none⟩) h, fun b o h => hb.frozen (p := ⟨b, o, none⟩) h⟩

/-- A number lies between two. -/
def inB (a lo hi : Int) : Bool := decide (lo ≤ a) && decide (a ≤ hi)
theorem inB_iff {a lo hi : Int} : inB a lo hi = true ↔ lo ≤ a ∧ a ≤ hi := by simp [inB]
theorem inB_not {a lo hi : Int} : inB a lo hi = false ↔ ¬ (lo ≤ a ∧ a ≤ hi) := by rw [← inB_iff]; simp

/-- The j-th number of a list (0 beyond its end). -/
def nth (l : List Int) (j : Nat) : Int := l.getD j 0
theorem nth_lt {l : List Int} {j : Nat} (h : j < l.length) : nth l j = l[j] := by simp [nth, List.getD, h]
theorem take_snoc (l : List Int) (k : Nat) (h : k < l.length) : l.take (k + 1) = l.take k ++ [nth l k] := by
  rw [nth_lt h, List.take_succ_eq_append_getElem h]
theorem all_snoc {p : Int → Bool} {l : List Int} {k : Nat} (h : k < l.length) (h1 : (l.take k).all p = true) (h2 : p (nth l k) = true) : (l.take (k + 1)).all p = true := by
  rw [take_snoc l k h, List.all_append, h1]; simp [h2]
theorem all_done {p : Int → Bool} {l : List Int} {k : Nat} (h : k = l.length) (h1 : (l.take k).all p = true) : l.all p = true := by
  rwa [h, List.take_length] at h1
theorem all_not {p : Int → Bool} {l : List Int} {k : Nat} (h : k < l.length) (h2 : p (nth l k) = false) : l.all p = false := by
  rw [List.all_eq_false]
  exact ⟨l[k], List.getElem_mem _, by rw [← nth_lt h]; simp [h2]⟩
theorem all_nth {p : Int → Bool} {l : List Int} (h : l.all p = true) {k : Nat} (hk : k < l.length) : p (nth l k) = true := by
  rw [nth_lt hk]; exact (List.all_eq_true.1 h) _ (List.getElem_mem _)

/-- A slice of int, at address A (nil or not), of n elements, reads as the list l. -/
def Ints (w : World) (A : Option Addr) (n : Nat) (l : List Int) : Prop :=
  l.length = n ∧ (0 < n → ∃ g o, A = some ⟨g, o, none⟩ ∧ ∀ j, j < n → w.cell? ⟨g, o + j, none⟩ = some (.int .i64 (nth l j)))
section
variable {w w' : World} {A : Option Addr} {n : Nat} {l : List Int}
theorem Ints.len (h : Ints w A n l) : l.length = n := h.1
theorem Ints.nil : Ints w A 0 [] := ⟨rfl, fun h => absurd h (by omega)⟩
theorem Ints.block (h : Ints w A n l) (hn : 0 < n) : ∃ g o, A = some ⟨g, o, none⟩ ∧ g < w.heap.size ∧ ∀ j, j < n → w.cell? ⟨g, o + j, none⟩ = some (.int .i64 (nth l j)) := by
  obtain ⟨g, o, e, hc⟩ := h.2 hn
  exact ⟨g, o, e, by have := World.block_lt_of_cell? w _ (hc 0 hn); exact this, hc⟩
theorem Ints.keep (h : Ints w A n l) (hk : ∀ p : Addr, p.block < w.heap.size → w'.cell? p = w.cell? p) : Ints w' A n l := by
  refine ⟨h.1, fun hn => ?_⟩
  obtain ⟨g, o, e, hg, hc⟩ := h.block hn
  exact ⟨g, o, e, fun j hj => (hk _ hg).trans (hc j hj)⟩
theorem Ints.below (h : Ints w A n l) (hb : Below w.heap.size w w') : Ints w' A n l := h.keep fun _ hp => hb.cell hp
theorem Ints.alloc (h : Ints w A n l) (o : Obj) : Ints (w.alloc o) A n l := h.keep fun p hp => World.cell?_alloc_lt w o p hp
theorem Ints.new {n g : Nat} (w : World) (l : List Int) (t : TypeId) (hg : g = w.heap.size) (hn : l.length = n) : Ints (w.alloc (.cells (l.map (Value.int .i64)).toArray t)) (some ⟨g, 0, none⟩) n l := by
  subst hn; subst hg
  refine ⟨rfl, fun _ => ⟨_, _, rfl, fun j hj => ?_⟩⟩
  rw [World.cell?_alloc_at _ _ _ _ rfl, nth_lt hj]
  simp [hj]
theorem Ints.drew (h : Ints w A n l) : Ints w.drew A n l := h
end

theorem xor_comm64 (a b : Int) : bits .xor .i64 a b = bits .xor .i64 b a := by
  show IntKind.i64.wrap ((BitVec.ofInt _ a ^^^ BitVec.ofInt _ b).toNat : Int) = IntKind.i64.wrap ((BitVec.ofInt _ b ^^^ BitVec.ofInt _ a).toNat : Int)
  rw [BitVec.xor_comm]

end Go.Proofs.Ytodnahpegecpiaa

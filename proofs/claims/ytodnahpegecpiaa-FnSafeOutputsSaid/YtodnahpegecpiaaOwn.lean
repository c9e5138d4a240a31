/- Slices of numbers that the call itself makes: one law for 'out = append(out, x)', one for 'make([]int, n)'. -/
import Derived.Test.YtodnahpegecpiaaBase
import Derived.Lib.SmallJoins
namespace Go.Proofs.Ytodnahpegecpiaa
set_option linter.unusedSimpArgs false
set_option linter.unusedVariables false
open Go.RowKit
theorem int_info : (Try.prog.info? 3).map (fun i => (i.zero, i.size, i.bytes)) = some (some (.int .i64 0), 1, 8) := by kernel_rfl
/-- A fresh slice of numbers, from block base on. -/
def Own (w : World) (base : Nat) (v : Value) (l : List Int) : Prop := w.ownsRow base 3 1 v l.length (l.map (Value.int .i64))
section
variable {w w' : World} {base B g : Nat} {v : Value} {l : List Int}
theorem Own.nil : Own w base (.slice none 0 0) [] := World.ownsRow_nil _ _ _ _
theorem Own.empty (hb : base ≤ w.heap.size) (hg : g = w.heap.size) : Own (w.alloc (.cells #[] 3)) base (.slice (some ⟨g, 0, none⟩) 0 0) [] := by
  subst hg; exact World.ownsRow_made w #[] 0 hb (by unfold maxLen; omega) rfl
theorem Own.mono (h : Own w base v l) (hb : B ≤ base) : Own w B v l := Joins.ownsRow_le h hb
theorem Own.block (h : Own w base v l) : ∀ k, v.ownBlock = some k → base ≤ k ∧ k < w.heap.size := h.lt
theorem Own.keep {row : Option Nat} (h : Own w base v l) (ho : w.grownBy w' row) (hne : v.ownBlock = none ∨ v.ownBlock ≠ row) : Own w' base v l := h.kept ho hne
theorem Own.alloc (h : Own w base v l) (o : Obj) : Own (w.alloc o) base v l := World.ownsRow.alloc h o
/-- An owned slice stays where a block below base may have been written. -/
theorem Own.only (h : Own w base v l) (hg : g < base) (ho : w.grownBy w' (some g)) : Own w' base v l :=
  h.keep ho (by
    cases hv : v.ownBlock with
    | none => exact .inl rfl
    | some k => exact .inr (fun e => by have := (h.block k hv).1; cases e; omega))
theorem Own.below (h : Own w base v l) (hb : Below w.heap.size w w') : Own w' base v l :=
  h.keep (row := none) ⟨hb.os, hb.tape, hb.output, hb.size, fun k hk _ => hb.block k hk⟩ (by cases hv : v.ownBlock <;> simp)
/-- What is owned reads. -/
theorem Own.reads (h : Own w base v l) : ∃ A c, v = .slice A l.length c ∧ Ints w A l.length l := by
  rcases h.2 with ⟨rfl, hn⟩ | ⟨g, cap, cur, rfl, _, hh, _, _, _, htake⟩
  · refine ⟨none, 0, by rw [hn], rfl, fun h0 => absurd h0 (by omega)⟩
  · refine ⟨_, cap, rfl, rfl, fun _ => ⟨g, 0, rfl, fun j hj => ?_⟩⟩
    have hc := World.ownsRow.cells (g := g) h rfl j (.int .i64 (nth l j)) (by rw [nth_lt hj]; simp [hj])
    simpa [Addr.add_lit] using hc
theorem Own.snoc {x : Int} (h : w.ownsRow base 3 1 v (l.length + 1) (l.map (Value.int .i64) ++ [.int .i64 x])) : Own w base v (l ++ [x]) := by
  unfold Own; simpa using h
theorem Own.belowBase (h : Own w base v l) (hb : base ≤ w.heap.size) (hg : w.grownBy w' v.ownBlock) : Below base w w' :=
  (Below.refl base w).grown hg hb (fun k hk => (h.block k hk).1)
end
theorem grown_trans {a b c : World} {row : Option Nat} (h : a.grownBy b none) (k : b.grownBy c row) : a.grownBy c row :=
  ⟨k.os.trans h.os, k.tape.trans h.tape, k.output.trans h.output, Nat.le_trans h.size k.size, fun i hi hne => (k.block i (Nat.lt_of_lt_of_le hi h.size) hne).trans (h.block i hi (by simp))⟩
/-- 'out = append(out, y)' (y lies in the new block that the walk has just laid). -/
theorem append_int {w : World} {ops : Array Oper} {rest : List Oper} {o : Oper} {a : Act} {Q : Exit → Act → World → Prop} (hgd : o.guard = none) (s x : Operand)
    (ho : o.op = .call { callee := .builtin .append, args := #[s, x], argTypes := #[25, 25] })
    (base : Nat) (v : Value) (l : List Int) (y : Int) (g : Nat) (hs : a.eval s = v) (hx : a.eval x = .slice (some ⟨g, 0, none⟩) 1 1) (hown : Own w base v l) (hg : g = w.heap.size) (hlen : l.length ≤ 1099511627776) (hbase : base ≤ w.heap.size)
    (h : ∀ v' w', Own w' base v' (l ++ [y]) → w.grownBy w' v.ownBlock → wpList Try.prog ops Q rest (a.put o.dst v') w') :
    wpList Try.prog ops Q (o :: rest) a (w.alloc (.cells #[.int .i64 y] 3)) := by
  subst hg
  obtain ⟨i0, hi, hz0, hz1, hz2⟩ := info_parts int_info
  refine wpList_append_own (P := Try.prog) (w.alloc (.cells #[.int .i64 y] 3)) hgd s x 25 ho base 3 i0 (.int .i64 0) 1 8 Try.underlying25 hi hz0 hz1 hz2 rfl (by decide) v l.length (l.map (Value.int .i64)) hs (hown.alloc _) ⟨w.heap.size, 0, none⟩ 1 1 [.int .i64 y] hx rfl ?_ ?_ ?_ ?_ ?_ ?_
  · intro j u hu
    match j, hu with
    | 0, hu => simp at hu; subst hu; rw [Addr.add_lit, World.cell?_alloc_at _ _ _ _ rfl]; rfl
  · intro u hu; simp at hu; subst hu; rfl
  · unfold maxLen; omega
  · omega
  · simp; omega
  · intro v' w' h1 h2 _
    exact h v' w' (Own.snoc h1) (grown_trans (World.grownBy_alloc w _ none) h2)
end Go.Proofs.Ytodnahpegecpiaa

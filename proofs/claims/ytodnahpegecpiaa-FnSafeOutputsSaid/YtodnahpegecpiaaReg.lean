/- Steps of a walk through a region that draws its order, beside the kit's 'wpAnyH_take': what must come up next. -/
import Derived.Test.YtodnahpegecpiaaAppend
import Derived.OrdersHeld
import Derived.Deep.RegionHeld
namespace Go.Proofs.Ytodnahpegecpiaa
set_option linter.unusedSimpArgs false
set_option linter.unusedVariables false
open Go.RowKit
section
variable {P : Program} {ops : Array Oper} {Q : Exit → Act → World → Prop} {md : Region.Mode} {S : World → Prop}
/-- Behind operation i. -/
def NextH (P : Program) (md : Region.Mode) (ops : Array Oper) (Q : Exit → Act → World → Prop) (S : World → Prop) (fuel : Nat) (listed : Array Bool) (i : Nat) (a : Act) (w : World) : Prop :=
  S w ∧ wpAnyH P md ops Q S fuel (listed.setIfInBounds i true) a w
def StepH (P : Program) (md : Region.Mode) (ops : Array Oper) (Q : Exit → Act → World → Prop) (S : World → Prop) (fuel : Nat) (listed : Array Bool) (i : Nat) (oi : Oper) (a : Act) (w : World) : Prop :=
  oi.wp P a w (NextH P md ops Q S fuel listed i) Q
variable {i j : Nat} {oi oj : Oper} {fuel : Nat} {listed : Array Bool} {a : Act} {w : World}
theorem StepH.wpOp (hi : ops[i]? = some oi) (hw : Region.wanted oi (yielded ops a.tmps) = true) (h : StepH P md ops Q S fuel listed i oi a w) :
    wpOp P ops Q i (fun a' w' => S w' ∧ wpAnyH P md ops Q S fuel (listed.setIfInBounds i true) a' w') a w := by
  unfold Go.wpOp
  simp only [hi, hw, if_true]
  exact .inl h
/-- The one operation that may come up. -/
theorem onlyH (hi : ops[i]? = some oi) (hr : Region.ready md ops listed = [i]) (hw : Region.wanted oi (yielded ops a.tmps) = true)
    (h : StepH P md ops Q S fuel listed i oi a w) : wpAnyH P md ops Q S (fuel + 1) listed a w := by
  refine wpAnyH_all (rs := [i]) hr (by simp) fun k hk => ?_
  obtain rfl : k = i := by simpa using hk
  exact h.wpOp hi hw
/-- Either of two may come up. -/
theorem forkH (hi : ops[i]? = some oi) (hj : ops[j]? = some oj) (hr : Region.ready md ops listed = [i, j]) (hw : Region.wanted oi (yielded ops a.tmps) = true)
    (hw2 : Region.wanted oj (yielded ops a.tmps) = true) (h : StepH P md ops Q S fuel listed i oi a w) (h2 : StepH P md ops Q S fuel listed j oj a w) : wpAnyH P md ops Q S (fuel + 1) listed a w := by
  refine wpAnyH_all (rs := [i, j]) hr (by simp) fun k hk => ?_
  simp only [List.mem_cons, List.not_mem_nil, or_false] at hk
  rcases hk with rfl | rfl
  · exact h.wpOp hi hw
  · exact h2.wpOp hj hw2
/-- An operation that leaves a value. -/
theorem valueH {v : Value} {w2 : World} (h1 : (execOp a.eval oi).run P w = .ok (.value v) w2) (hS : S w2)
    (h : S w2 → wpAnyH P md ops Q S fuel (listed.setIfInBounds i true) (a.put oi.dst v) w2) : StepH P md ops Q S fuel listed i oi a w := by
  unfold StepH
  simp only [Oper.wp, h1, Oper.upon]; exact ⟨hS, h hS⟩
/-- An operation that leaves no value: a store. -/
theorem skipH {w2 : World} (h1 : (execOp a.eval oi).run P w = .ok .skip w2) (hS : S w2)
    (h : S w2 → wpAnyH P md ops Q S fuel (listed.setIfInBounds i true) (a.put oi.dst undef) w2) : StepH P md ops Q S fuel listed i oi a w := by
  unfold StepH
  simp only [Oper.wp, h1, Oper.upon]; exact ⟨hS, h hS⟩
/-- A call. -/
theorem callH {f : FuncId} {args : Array Value} (h1 : (execOp a.eval oi).run P w = .ok (.enter f args) w)
    (h : Calls P f args w fun e w2 => ∃ v, e = .returned v ∧ S w2 ∧ (S w2 → wpAnyH P md ops Q S fuel (listed.setIfInBounds i true) (a.put oi.dst v) w2)) : StepH P md ops Q S fuel listed i oi a w := by
  unfold StepH
  simp only [Oper.wp, h1, Oper.upon]
  refine Calls.mono h fun e w2 he => ?_
  obtain ⟨v, rfl, h3, h4⟩ := he
  exact ⟨h3, h4 h3⟩
/-- A plain operation is taken first. -/
theorem takeH {v : Value} (hi : ops[i]? = some oi)
    (hs : Region.noSelect ops = true) (hf : Region.free md ops listed i = true) (hr : (Region.ready md ops listed).contains i = true)
    (hQ : ∀ c a w, Q (.panic c) (a.put oi.dst v) w → Q (.panic c) a w) (hw : Region.wanted oi (yielded ops a.tmps) = true)
    (hy : ∀ W, S W → (execOp a.eval oi).run P W = .ok (.value v) W) (hS : S w)
    (h : wpAnyH P md ops Q S fuel (listed.setIfInBounds i true) (a.put oi.dst v) w) : wpAnyH P md ops Q S (fuel + 1) listed a w :=
  wpAnyH_take hi hs hf hr hQ (.inl ⟨hw, hy⟩) hS h
/-- An operation that is not wanted is passed. -/
theorem passH (hi : ops[i]? = some oi)
    (hs : Region.noSelect ops = true) (hf : Region.free md ops listed i = true) (hr : (Region.ready md ops listed).contains i = true)
    (hQ : ∀ c a w, Q (.panic c) (a.put oi.dst undef) w → Q (.panic c) a w) (hw : Region.wanted oi (yielded ops a.tmps) = false) (hS : S w)
    (h : wpAnyH P md ops Q S fuel (listed.setIfInBounds i true) (a.put oi.dst undef) w) : wpAnyH P md ops Q S (fuel + 1) listed a w :=
  wpAnyH_take hi hs hf hr hQ (.inr ⟨hw, rfl⟩) hS h
end
/-- An append of numbers to a slice of the call's own. -/
theorem appendH {ops : Array Oper} {Q : Exit → Act → World → Prop} {md : Region.Mode} {S : World → Prop} {i : Nat} {oi : Oper} {fuel : Nat} {listed : Array Bool} {a : Act} {w : World} (s x : Operand)
    (ho : oi.op = .call { callee := .builtin .append, args := #[s, x], argTypes := #[25, 25] })
    (base : Nat) (v : Value) (l : List Int) (hs : a.eval s = v) (hown : Own w base v l) {A : Option Addr} {m c : Nat} {l2 : List Int} (hx : a.eval x = .slice A m c) (hI : Ints w A m l2) (hlen : l.length + m ≤ 1099511627776) (hbase : base ≤ w.heap.size)
    (h : ∀ v' w', Own w' base v' (l ++ l2) → w.grownBy w' v.ownBlock → (v'.ownBlock = v.ownBlock ∨ v'.ownBlock = some w.heap.size) → S w' ∧ (S w' → wpAnyH Try.prog md ops Q S fuel (listed.setIfInBounds i true) (a.put oi.dst v') w')) :
    StepH Try.prog md ops Q S fuel listed i oi a w := by
  obtain ⟨v', w', hrun, h2, h3, h4⟩ := run_append_ints (ty := oi.type) hown (c := c) hI hlen hbase
  unfold StepH Oper.wp execOp
  simp only [ho, resolve, invoke, builtin, Sem.run_bind, Sem.run_pure, Result.andThen_ok, List.map_toArray, List.map_cons, List.map_nil, hs, hx, hrun]
  obtain ⟨h5, h6⟩ := h _ _ h2 h3 h4
  exact ⟨h5, h6 h5⟩
end Go.Proofs.Ytodnahpegecpiaa

/- Proved: for all arguments the law FnExactOutputLabels returns true (the program's OutputLabels answers as the reference's), and the arguments read behind the call as before. No condition. -/
import Derived.Test.YtodnahpegecpiaaLawOutputLabelsWalk
import Derived.Test.YtodnahpegecpiaaFacts
import Derived.Test.YtodnahpegecpiaaOpenG
namespace Go.Proofs.Ytodnahpegecpiaa
set_option linter.unusedSimpArgs false
set_option linter.unusedVariables false
open Go.ChangeShapes Go.WideShapes Go.ChangeAt Go.RowKit
set_option maxRecDepth 100000 in
theorem lifted_FnExactOutputLabels (os : Os) (started : os.Started) (H : Type) (enc : TypeId × Value → H) :
    ReturnsInHanded {} Try.checked os 8 .any (Rows.fnExactOutputLabelsSpec.pre6 enc Try.prog Try.f8 Rows.fnExactOutputLabelsRow.domain false) (Rows.fnExactOutputLabelsSpec.post enc Try.prog Try.f8 false true false false) := by
  refine returnsInHanded_of_change (C := Try.checked) ownKnob_none started (by kernel_rfl) Try.func8
    (ChangeSpec.witness6 (enc := enc) (C := Try.checked) false ⟨#[], #[.agg #[.slice none 0 0, .slice none 0 0], .slice none 0 0], []⟩ 8 (by kernel_rfl) (by kernel_rfl) (by kernel_rfl) (by kernel_rfl)) ?_
  intro W base args ds gs before hval0 hW hcnd _
  have hval : ∀ (j : Nat) t v, Try.f8.params[j]? = some t → args[j]? = some v → Value.okWide Try.prog W .any base t v := hval0
  have hW2 := hW
  obtain ⟨p, q, hA0, hV, rfl, hfz, hnd⟩ := hW
  have hA : DataW.TrodAll enc Try.prog W 0 (fun _ => true) true Try.f8.params.toList args.toList ds p := hA0
  rw [Try.params8] at hA hval
  obtain ⟨v0, vs0, d0, ds0, p0, q0, hargs, rfl, rfl, h0, r0⟩ := trodAll_cons hA
  obtain ⟨v1, vs1, d1, ds1, p1, q1, rfl, rfl, rfl, h1, r1⟩ := trodAll_cons r0
  obtain ⟨rfl, rfl, rfl⟩ := trodAll_nil r1
  obtain rfl : args = #[v0, v1] := by cases args; simp_all
  obtain ⟨rfl, rfl⟩ := trodVars_none hV
  have k0 := h0
  have lt0 : ∀ x ∈ p0, x.block < W.heap.size := by obtain ⟨m, hm⟩ := k0; exact DataW.trod_lt m _ _ _ hm
  obtain ⟨u0, z0, l0, m0, rfl, hx0, hy0⟩ := open_Circuit (hval 0 63 v0 rfl rfl) h0
  have k1 := h1
  have lt1 : ∀ x ∈ p1, x.block < W.heap.size := by obtain ⟨m, hm⟩ := k1; exact DataW.trod_lt m _ _ _ hm
  obtain ⟨l1, hx1⟩ := open_Rd (hval 1 25 v1 rfl rfl) h1
  clear hA0 hval0
  refine (walk_FnExactOutputLabels u0 l0 z0 m0 v1 l1 W hx0 hy0 hx1).mono fun e W2 ⟨he, bel⟩ => ?_
  subst he
  exact ⟨_, rfl, _, _, _, [], _, [], hW2, trodAll_mk1 (shut_bool Try.underlying4 _), (trodAll_cons_mk (Below.trod laidOut_yes (by kernel_rfl) (of_decide_eq_true (by kernel_rfl)) k0 bel lt0) (trodAll_cons_mk (Below.trod laidOut_yes (by kernel_rfl) (of_decide_eq_true (by kernel_rfl)) k1 bel lt1) trodAll_mk0)), rfl, bel.frame _, fun h => by cases h⟩
theorem facts_FnExactOutputLabels : joinedFacts Try.prog 8 Try.f8 Rows.fnExactOutputLabelsSpec Rows.fnExactOutputLabelsRow = true := by
  unfold joinedFacts
  rw [mayEnter_yes, liftsFinal_no, make_cut]
  kernel_rfl
theorem wrap_FnExactOutputLabels : Try.f8.isWrapper Try.prog Rows.fnExactOutputLabelsRow.wrapper Rows.fnExactOutputLabelsRow.mainSum := by
  unfold Func.isWrapper
  rw [if_neg (of_decide_eq_false (by kernel_rfl))]
  exact ⟨rfl, rfl⟩
theorem inst_FnExactOutputLabels : Try.f8.isInstance Try.prog Rows.fnExactOutputLabelsRow.origin Rows.fnExactOutputLabelsRow.targs := of_decide_eq_true (by kernel_rfl)
theorem named_FnExactOutputLabels : Try.prog.funcNamed Rows.fnExactOutputLabelsRow.func = some 8 := by kernel_rfl
theorem FnExactOutputLabels_holds : Rows.FnExactOutputLabelsSaid :=
  OpenClaim.holds_of_wide 8 Try.f8 rfl rfl rfl rfl rfl rfl rfl ⟨rfl, rfl, rfl, rfl, rfl⟩ rfl rfl rfl rfl rfl named_FnExactOutputLabels Try.func8 facts_FnExactOutputLabels
    inst_FnExactOutputLabels wrap_FnExactOutputLabels
    (fun os started H enc _ => lifted_FnExactOutputLabels os started H enc)
#print axioms FnExactOutputLabels_holds
end Go.Proofs.Ytodnahpegecpiaa

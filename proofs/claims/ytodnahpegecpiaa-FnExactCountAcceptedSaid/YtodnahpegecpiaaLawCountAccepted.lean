/- Proved: for all arguments the law FnExactCountAccepted returns true (the program's CountAccepted answers as the reference's), and the arguments read behind the call as before. No condition. -/
import Derived.Test.YtodnahpegecpiaaLawCountAcceptedWalk
import Derived.Test.YtodnahpegecpiaaFacts
import Derived.Test.YtodnahpegecpiaaOpenK
namespace Go.Proofs.Ytodnahpegecpiaa
set_option linter.unusedSimpArgs false
set_option linter.unusedVariables false
open Go.ChangeShapes Go.WideShapes Go.ChangeAt Go.RowKit
set_option maxRecDepth 100000 in
theorem lifted_FnExactCountAccepted (os : Os) (started : os.Started) (H : Type) (enc : TypeId × Value → H) :
    ReturnsInHanded {} Try.checked os 5 .any (Rows.fnExactCountAcceptedSpec.pre6 enc Try.prog Try.f5 Rows.fnExactCountAcceptedRow.domain false) (Rows.fnExactCountAcceptedSpec.post enc Try.prog Try.f5 false true false false) := by
  refine returnsInHanded_of_change (C := Try.checked) ownKnob_none started (by kernel_rfl) Try.func5
    (ChangeSpec.witness6 (enc := enc) (C := Try.checked) false ⟨#[], #[.slice none 0 0], []⟩ 8 (by kernel_rfl) (by kernel_rfl) (by kernel_rfl) (by kernel_rfl)) ?_
  intro W base args ds gs before hval0 hW hcnd _
  have hval : ∀ (j : Nat) t v, Try.f5.params[j]? = some t → args[j]? = some v → Value.okWide Try.prog W .any base t v := hval0
  have hW2 := hW
  obtain ⟨p, q, hA0, hV, rfl, hfz, hnd⟩ := hW
  have hA : DataW.TrodAll enc Try.prog W 0 (fun _ => true) true Try.f5.params.toList args.toList ds p := hA0
  rw [Try.params5] at hA hval
  obtain ⟨v0, vs0, d0, ds0, p0, q0, hargs, rfl, rfl, h0, r0⟩ := trodAll_cons hA
  obtain ⟨rfl, rfl, rfl⟩ := trodAll_nil r0
  obtain rfl : args = #[v0] := by cases args; simp_all
  obtain ⟨rfl, rfl⟩ := trodVars_none hV
  have k0 := h0
  have lt0 : ∀ x ∈ p0, x.block < W.heap.size := by obtain ⟨m, hm⟩ := k0; exact DataW.trod_lt m _ _ _ hm
  obtain ⟨l0, hx0⟩ := open_Rd (hval 0 25 v0 rfl rfl) h0
  clear hA0 hval0
  refine (walk_FnExactCountAccepted v0 l0 W hx0).mono fun e W2 ⟨he, bel⟩ => ?_
  subst he
  exact ⟨_, rfl, _, _, _, [], _, [], hW2, trodAll_mk1 (shut_bool Try.underlying4 _), (trodAll_cons_mk (Below.trod laidOut_yes (by kernel_rfl) (of_decide_eq_true (by kernel_rfl)) k0 bel lt0) trodAll_mk0), rfl, bel.frame _, fun h => by cases h⟩
theorem facts_FnExactCountAccepted : joinedFacts Try.prog 5 Try.f5 Rows.fnExactCountAcceptedSpec Rows.fnExactCountAcceptedRow = true := by
  unfold joinedFacts
  rw [mayEnter_yes, liftsFinal_no, make_cut]
  kernel_rfl
theorem wrap_FnExactCountAccepted : Try.f5.isWrapper Try.prog Rows.fnExactCountAcceptedRow.wrapper Rows.fnExactCountAcceptedRow.mainSum := by
  unfold Func.isWrapper
  rw [if_neg (of_decide_eq_false (by kernel_rfl))]
  exact ⟨rfl, rfl⟩
theorem inst_FnExactCountAccepted : Try.f5.isInstance Try.prog Rows.fnExactCountAcceptedRow.origin Rows.fnExactCountAcceptedRow.targs := of_decide_eq_true (by kernel_rfl)
theorem named_FnExactCountAccepted : Try.prog.funcNamed Rows.fnExactCountAcceptedRow.func = some 5 := by kernel_rfl
theorem FnExactCountAccepted_holds : Rows.FnExactCountAcceptedSaid :=
  OpenClaim.holds_of_wide 5 Try.f5 rfl rfl rfl rfl rfl rfl rfl ⟨rfl, rfl, rfl, rfl, rfl⟩ rfl rfl rfl rfl rfl named_FnExactCountAccepted Try.func5 facts_FnExactCountAccepted
    inst_FnExactCountAccepted wrap_FnExactCountAccepted
    (fun os started H enc _ => lifted_FnExactCountAccepted os started H enc)
#print axioms FnExactCountAccepted_holds
end Go.Proofs.Ytodnahpegecpiaa

/- Proved: for all arguments the law FnHiddenChoice returns true, and the arguments read behind the call as before. No condition. -/
import Derived.Test.YtakmgghjpompoaaLawHiddenChoiceWalk
import Derived.Test.YtakmgghjpompoaaFacts
import Derived.Test.YtakmgghjpompoaaOpenK
namespace Go.Proofs.Ytakmgghjpompoaa
set_option linter.unusedSimpArgs false
set_option linter.unusedVariables false
open Go.ChangeShapes Go.WideShapes Go.ChangeAt Go.RowKit
set_option maxRecDepth 100000 in
theorem lifted_FnHiddenChoice (os : Os) (started : os.Started) (H : Type) (enc : TypeId × Value → H) :
    ReturnsInHanded {} Try.checked os 17 .any (Rows.fnHiddenChoiceSpec.pre6 enc Try.prog Try.f17 Rows.fnHiddenChoiceRow.domain false) (Rows.fnHiddenChoiceSpec.post enc Try.prog Try.f17 false true false false) := by
  refine returnsInHanded_of_change (C := Try.checked) ownKnob_none started (by kernel_rfl) Try.func17
    (ChangeSpec.witness6 (enc := enc) (C := Try.checked) false ⟨#[], #[.slice none 0 0], []⟩ 8 (by kernel_rfl) (by kernel_rfl) (by kernel_rfl) (by kernel_rfl)) ?_
  intro W base args ds gs before hval0 hW hcnd _
  have hval : ∀ (j : Nat) t v, Try.f17.params[j]? = some t → args[j]? = some v → Value.okWide Try.prog W .any base t v := hval0
  have hW2 := hW
  obtain ⟨p, q, hA0, hV, rfl, hfz, hnd⟩ := hW
  have hA : DataW.TrodAll enc Try.prog W 0 (fun _ => true) true Try.f17.params.toList args.toList ds p := hA0
  rw [Try.params17] at hA hval
  obtain ⟨v0, vs0, d0, ds0, p0, q0, hargs, rfl, rfl, h0, r0⟩ := trodAll_cons hA
  obtain ⟨rfl, rfl, rfl⟩ := trodAll_nil r0
  obtain rfl : args = #[v0] := by cases args; simp_all
  obtain ⟨rfl, rfl⟩ := trodVars_none hV
  have k0 := h0
  have lt0 : ∀ x ∈ p0, x.block < W.heap.size := by obtain ⟨m, hm⟩ := k0; exact DataW.trod_lt m _ _ _ hm
  obtain ⟨A0, n0, c0, rfl, hx0⟩ := open_Bytes (hval 0 50 v0 rfl rfl) h0
  clear hA0 hval0
  refine (walk_FnHiddenChoice A0 n0 c0 W hx0).mono fun e W2 ⟨he, bel⟩ => ?_
  subst he
  exact ⟨_, rfl, _, _, _, [], _, [], hW2, trodAll_mk1 (shut_bool Try.underlying4 _), (trodAll_cons_mk (Below.trod laidOut_yes (by kernel_rfl) (of_decide_eq_true (by kernel_rfl)) k0 bel lt0) trodAll_mk0), rfl, bel.frame _, fun h => by cases h⟩
theorem facts_FnHiddenChoice : joinedFacts Try.prog 17 Try.f17 Rows.fnHiddenChoiceSpec Rows.fnHiddenChoiceRow = true := by
  unfold joinedFacts
  rw [mayEnter_yes, liftsFinal_no, make_cut]
  kernel_rfl
theorem wrap_FnHiddenChoice : Try.f17.isWrapper Try.prog Rows.fnHiddenChoiceRow.wrapper Rows.fnHiddenChoiceRow.mainSum := by
  unfold Func.isWrapper
  rw [if_neg (of_decide_eq_false (by kernel_rfl))]
  exact ⟨rfl, rfl⟩
theorem inst_FnHiddenChoice : Try.f17.isInstance Try.prog Rows.fnHiddenChoiceRow.origin Rows.fnHiddenChoiceRow.targs := of_decide_eq_true (by kernel_rfl)
theorem named_FnHiddenChoice : Try.prog.funcNamed Rows.fnHiddenChoiceRow.func = some 17 := by kernel_rfl
theorem FnHiddenChoice_holds : Rows.FnHiddenChoiceSaid :=
  OpenClaim.holds_of_wide 17 Try.f17 rfl rfl rfl rfl rfl rfl rfl ⟨rfl, rfl, rfl, rfl, rfl⟩ rfl rfl rfl rfl rfl named_FnHiddenChoice Try.func17 facts_FnHiddenChoice
    inst_FnHiddenChoice wrap_FnHiddenChoice
    (fun os started H enc _ => lifted_FnHiddenChoice os started H enc)
#print axioms FnHiddenChoice_holds
end Go.Proofs.Ytakmgghjpompoaa

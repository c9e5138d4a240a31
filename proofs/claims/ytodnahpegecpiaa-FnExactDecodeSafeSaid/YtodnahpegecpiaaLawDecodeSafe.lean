/- Proved: for all arguments the law FnExactDecodeSafe returns true (the program's DecodeSafe answers as the reference's), and the arguments read behind the call as before. No condition. -/
import Derived.Test.YtodnahpegecpiaaLawDecodeSafeWalk
import Derived.Test.YtodnahpegecpiaaFacts
import Derived.Test.YtodnahpegecpiaaOpenM
namespace Go.Proofs.Ytodnahpegecpiaa
set_option linter.unusedSimpArgs false
set_option linter.unusedVariables false
open Go.ChangeShapes Go.WideShapes Go.ChangeAt Go.RowKit
set_option maxRecDepth 100000 in
theorem lifted_FnExactDecodeSafe (os : Os) (started : os.Started) (H : Type) (enc : TypeId × Value → H) :
    ReturnsInHanded {} Try.checked os 7 .any (Rows.fnExactDecodeSafeSpec.pre6 enc Try.prog Try.f7 Rows.fnExactDecodeSafeRow.domain false) (Rows.fnExactDecodeSafeSpec.post enc Try.prog Try.f7 false true false false) := by
  refine returnsInHanded_of_change (C := Try.checked) ownKnob_none started (by kernel_rfl) Try.func7
    (ChangeSpec.witness6 (enc := enc) (C := Try.checked) false ⟨#[], #[.slice none 0 0, .slice none 0 0], []⟩ 8 (by kernel_rfl) (by kernel_rfl) (by kernel_rfl) (by kernel_rfl)) ?_
  intro W base args ds gs before hval0 hW hcnd _
  have hval : ∀ (j : Nat) t v, Try.f7.params[j]? = some t → args[j]? = some v → Value.okWide Try.prog W .any base t v := hval0
  have hW2 := hW
  obtain ⟨p, q, hA0, hV, rfl, hfz, hnd⟩ := hW
  have hA : DataW.TrodAll enc Try.prog W 0 (fun _ => true) true Try.f7.params.toList args.toList ds p := hA0
  rw [Try.params7] at hA hval
  obtain ⟨v0, vs0, d0, ds0, p0, q0, hargs, rfl, rfl, h0, r0⟩ := trodAll_cons hA
  obtain ⟨v1, vs1, d1, ds1, p1, q1, rfl, rfl, rfl, h1, r1⟩ := trodAll_cons r0
  obtain ⟨rfl, rfl, rfl⟩ := trodAll_nil r1
  obtain rfl : args = #[v0, v1] := by cases args; simp_all
  obtain ⟨rfl, rfl⟩ := trodVars_none hV
  have k0 := h0
  have lt0 : ∀ x ∈ p0, x.block < W.heap.size := by obtain ⟨m, hm⟩ := k0; exact DataW.trod_lt m _ _ _ hm
  obtain ⟨l0, hx0⟩ := open_Grid (hval 0 54 v0 rfl rfl) h0
  have k1 := h1
  have lt1 : ∀ x ∈ p1, x.block < W.heap.size := by obtain ⟨m, hm⟩ := k1; exact DataW.trod_lt m _ _ _ hm
  obtain ⟨l1, hx1⟩ := open_Rd (hval 1 25 v1 rfl rfl) h1
  clear hA0 hval0
  refine (walk_FnExactDecodeSafe v0 l0 v1 l1 W hx0 hx1).mono fun e W2 ⟨he, bel⟩ => ?_
  subst he
  exact ⟨_, rfl, _, _, _, [], _, [], hW2, trodAll_mk1 (shut_bool Try.underlying4 _), (trodAll_cons_mk (Below.trod laidOut_yes (by kernel_rfl) (of_decide_eq_true (by kernel_rfl)) k0 bel lt0) (trodAll_cons_mk (Below.trod laidOut_yes (by kernel_rfl) (of_decide_eq_true (by kernel_rfl)) k1 bel lt1) trodAll_mk0)), rfl, bel.frame _, fun h => by cases h⟩
theorem facts_FnExactDecodeSafe : joinedFacts Try.prog 7 Try.f7 Rows.fnExactDecodeSafeSpec Rows.fnExactDecodeSafeRow = true := by
  unfold joinedFacts
  rw [mayEnter_yes, liftsFinal_no, make_cut]
  kernel_rfl
theorem wrap_FnExactDecodeSafe : Try.f7.isWrapper Try.prog Rows.fnExactDecodeSafeRow.wrapper Rows.fnExactDecodeSafeRow.mainSum := by
  unfold Func.isWrapper
  rw [if_neg (of_decide_eq_false (by kernel_rfl))]
  exact ⟨rfl, rfl⟩
theorem inst_FnExactDecodeSafe : Try.f7.isInstance Try.prog Rows.fnExactDecodeSafeRow.origin Rows.fnExactDecodeSafeRow.targs := of_decide_eq_true (by kernel_rfl)
theorem named_FnExactDecodeSafe : Try.prog.funcNamed Rows.fnExactDecodeSafeRow.func = some 7 := by kernel_rfl
theorem FnExactDecodeSafe_holds : Rows.FnExactDecodeSafeSaid :=
  OpenClaim.holds_of_wide 7 Try.f7 rfl rfl rfl rfl rfl rfl rfl ⟨rfl, rfl, rfl, rfl, rfl⟩ rfl rfl rfl rfl rfl named_FnExactDecodeSafe Try.func7 facts_FnExactDecodeSafe
    inst_FnExactDecodeSafe wrap_FnExactDecodeSafe
    (fun os started H enc _ => lifted_FnExactDecodeSafe os started H enc)
#print axioms FnExactDecodeSafe_holds
end Go.Proofs.Ytodnahpegecpiaa

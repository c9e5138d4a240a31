/- Proved: for all arguments the law FnTransferred returns true, and the arguments read behind the call as before. No condition. -/
import Derived.Test.YtakmgghjpompoaaLawTransferredWalk
import Derived.Test.YtakmgghjpompoaaFacts
import Derived.Test.YtakmgghjpompoaaOpenK
namespace Go.Proofs.Ytakmgghjpompoaa
set_option linter.unusedSimpArgs false
set_option linter.unusedVariables false
open Go.ChangeShapes Go.WideShapes Go.ChangeAt Go.RowKit
set_option maxRecDepth 100000 in
theorem lifted_FnTransferred (os : Os) (started : os.Started) (H : Type) (enc : TypeId × Value → H) :
    ReturnsInHanded {} Try.checked os 18 .any (Rows.fnTransferredSpec.pre6 enc Try.prog Try.f18 Rows.fnTransferredRow.domain false) (Rows.fnTransferredSpec.post enc Try.prog Try.f18 false true false false) := by
  refine returnsInHanded_of_change (C := Try.checked) ownKnob_none started (by kernel_rfl) Try.func18
    (ChangeSpec.witness6 (enc := enc) (C := Try.checked) false ⟨#[], #[.slice none 0 0], []⟩ 8 (by kernel_rfl) (by kernel_rfl) (by kernel_rfl) (by kernel_rfl)) ?_
  intro W base args ds gs before hval0 hW hcnd _
  have hval : ∀ (j : Nat) t v, Try.f18.params[j]? = some t → args[j]? = some v → Value.okWide Try.prog W .any base t v := hval0
  have hW2 := hW
  obtain ⟨p, q, hA0, hV, rfl, hfz, hnd⟩ := hW
  have hA : DataW.TrodAll enc Try.prog W 0 (fun _ => true) true Try.f18.params.toList args.toList ds p := hA0
  rw [Try.params18] at hA hval
  obtain ⟨v0, vs0, d0, ds0, p0, q0, hargs, rfl, rfl, h0, r0⟩ := trodAll_cons hA
  obtain ⟨rfl, rfl, rfl⟩ := trodAll_nil r0
  obtain rfl : args = #[v0] := by cases args; simp_all
  obtain ⟨rfl, rfl⟩ := trodVars_none hV
  have k0 := h0
  have lt0 : ∀ x ∈ p0, x.block < W.heap.size := by obtain ⟨m, hm⟩ := k0; exact DataW.trod_lt m _ _ _ hm
  obtain ⟨A0, n0, c0, rfl, hx0⟩ := open_Bytes (hval 0 50 v0 rfl rfl) h0
  clear hA0 hval0
  refine (walk_FnTransferred A0 n0 c0 W hx0).mono fun e W2 ⟨he, bel⟩ => ?_
  subst he
  exact ⟨_, rfl, _, _, _, [], _, [], hW2, trodAll_mk1 (shut_bool Try.underlying4 _), (trodAll_cons_mk (Below.trod laidOut_yes (by kernel_rfl) (of_decide_eq_true (by kernel_rfl)) k0 bel lt0) trodAll_mk0), rfl, bel.frame _, fun h => by cases h⟩
theorem facts_FnTransferred : joinedFacts Try.prog 18 Try.f18 Rows.fnTransferredSpec Rows.fnTransferredRow = true := by
  unfold joinedFacts
  rw [mayEnter_yes, liftsFinal_no, make_cut]
  kernel_rfl
theorem wrap_FnTransferred : Try.f18.isWrapper Try.prog Rows.fnTransferredRow.wrapper Rows.fnTransferredRow.mainSum := by
  unfold Func.isWrapper
  rw [if_neg (of_decide_eq_false (by kernel_rfl))]
  exact ⟨rfl, rfl⟩
theorem inst_FnTransferred : Try.f18.isInstance Try.prog Rows.fnTransferredRow.origin Rows.fnTransferredRow.targs := of_decide_eq_true (by kernel_rfl)
theorem named_FnTransferred : Try.prog.funcNamed Rows.fnTransferredRow.func = some 18 := by kernel_rfl
theorem FnTransferred_holds : Rows.FnTransferredSaid :=
  OpenClaim.holds_of_wide 18 Try.f18 rfl rfl rfl rfl rfl rfl rfl ⟨rfl, rfl, rfl, rfl, rfl⟩ rfl rfl rfl rfl rfl named_FnTransferred Try.func18 facts_FnTransferred
    inst_FnTransferred wrap_FnTransferred
    (fun os started H enc _ => lifted_FnTransferred os started H enc)
#print axioms FnTransferred_holds
end Go.Proofs.Ytakmgghjpompoaa

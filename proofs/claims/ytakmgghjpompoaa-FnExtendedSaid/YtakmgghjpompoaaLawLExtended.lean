/- Proved: for all arguments the law FnExtended returns true, and the arguments read behind the call as before. No condition. -/
import Derived.Test.YtakmgghjpompoaaLawExtendedWalk
import Derived.Test.YtakmgghjpompoaaFacts
import Derived.Test.YtakmgghjpompoaaOpenK
namespace Go.Proofs.Ytakmgghjpompoaa
set_option linter.unusedSimpArgs false
set_option linter.unusedVariables false
open Go.ChangeShapes Go.WideShapes Go.ChangeAt Go.RowKit
set_option maxRecDepth 100000 in
theorem lifted_FnExtended (os : Os) (started : os.Started) (H : Type) (enc : TypeId × Value → H) :
    ReturnsInHanded {} Try.checked os 21 .any (Rows.fnExtendedSpec.pre6 enc Try.prog Try.f21 Rows.fnExtendedRow.domain false) (Rows.fnExtendedSpec.post enc Try.prog Try.f21 false true false false) := by
  refine returnsInHanded_of_change (C := Try.checked) ownKnob_none started (by kernel_rfl) Try.func21
    (ChangeSpec.witness6 (enc := enc) (C := Try.checked) false ⟨#[], #[.slice none 0 0], []⟩ 8 (by kernel_rfl) (by kernel_rfl) (by kernel_rfl) (by kernel_rfl)) ?_
  intro W base args ds gs before hval0 hW hcnd _
  have hval : ∀ (j : Nat) t v, Try.f21.params[j]? = some t → args[j]? = some v → Value.okWide Try.prog W .any base t v := hval0
  have hW2 := hW
  obtain ⟨p, q, hA0, hV, rfl, hfz, hnd⟩ := hW
  have hA : DataW.TrodAll enc Try.prog W 0 (fun _ => true) true Try.f21.params.toList args.toList ds p := hA0
  rw [Try.params21] at hA hval
  obtain ⟨v0, vs0, d0, ds0, p0, q0, hargs, rfl, rfl, h0, r0⟩ := trodAll_cons hA
  obtain ⟨rfl, rfl, rfl⟩ := trodAll_nil r0
  obtain rfl : args = #[v0] := by cases args; simp_all
  obtain ⟨rfl, rfl⟩ := trodVars_none hV
  have k0 := h0
  have lt0 : ∀ x ∈ p0, x.block < W.heap.size := by obtain ⟨m, hm⟩ := k0; exact DataW.trod_lt m _ _ _ hm
  obtain ⟨A0, n0, c0, rfl, hx0⟩ := open_Bytes (hval 0 50 v0 rfl rfl) h0
  clear hA0 hval0
  refine (walk_FnExtended A0 n0 c0 W hx0).mono fun e W2 ⟨he, bel⟩ => ?_
  subst he
  exact ⟨_, rfl, _, _, _, [], _, [], hW2, trodAll_mk1 (shut_bool Try.underlying4 _), (trodAll_cons_mk (Below.trod laidOut_yes (by kernel_rfl) (of_decide_eq_true (by kernel_rfl)) k0 bel lt0) trodAll_mk0), rfl, bel.frame _, fun h => by cases h⟩
theorem facts_FnExtended : joinedFacts Try.prog 21 Try.f21 Rows.fnExtendedSpec Rows.fnExtendedRow = true := by
  unfold joinedFacts
  rw [mayEnter_yes, liftsFinal_no, make_cut]
  kernel_rfl
theorem wrap_FnExtended : Try.f21.isWrapper Try.prog Rows.fnExtendedRow.wrapper Rows.fnExtendedRow.mainSum := by
  unfold Func.isWrapper
  rw [if_neg (of_decide_eq_false (by kernel_rfl))]
  exact ⟨rfl, rfl⟩
theorem inst_FnExtended : Try.f21.isInstance Try.prog Rows.fnExtendedRow.origin Rows.fnExtendedRow.targs := of_decide_eq_true (by kernel_rfl)
theorem named_FnExtended : Try.prog.funcNamed Rows.fnExtendedRow.func = some 21 := by kernel_rfl
theorem FnExtended_holds : Rows.FnExtendedSaid :=
  OpenClaim.holds_of_wide 21 Try.f21 rfl rfl rfl rfl rfl rfl rfl ⟨rfl, rfl, rfl, rfl, rfl⟩ rfl rfl rfl rfl rfl named_FnExtended Try.func21 facts_FnExtended
    inst_FnExtended wrap_FnExtended
    (fun os started H enc _ => lifted_FnExtended os started H enc)
#print axioms FnExtended_holds
end Go.Proofs.Ytakmgghjpompoaa

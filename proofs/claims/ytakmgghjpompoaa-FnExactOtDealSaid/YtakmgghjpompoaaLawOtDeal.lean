/- Proved: for all arguments the law FnExactOtDeal returns true (the program's OtDeal answers as the reference's), and the arguments read behind the call as before. No condition. -/
import Derived.Test.YtakmgghjpompoaaLawOtDealWalk
import Derived.Test.YtakmgghjpompoaaFacts
import Derived.Test.YtakmgghjpompoaaOpen
namespace Go.Proofs.Ytakmgghjpompoaa
set_option linter.unusedSimpArgs false
set_option linter.unusedVariables false
open Go.ChangeShapes Go.WideShapes Go.ChangeAt Go.RowKit
set_option maxRecDepth 100000 in
theorem lifted_FnExactOtDeal (os : Os) (started : os.Started) (H : Type) (enc : TypeId × Value → H) :
    ReturnsInHanded {} Try.checked os 16 .any (Rows.fnExactOtDealSpec.pre6 enc Try.prog Try.f16 Rows.fnExactOtDealRow.domain false) (Rows.fnExactOtDealSpec.post enc Try.prog Try.f16 false true false false) := by
  refine returnsInHanded_of_change (C := Try.checked) ownKnob_none started (by kernel_rfl) Try.func16
    (ChangeSpec.witness6 (enc := enc) (C := Try.checked) false ⟨#[], #[.agg #[.int .i64 0, .int .i64 0]], []⟩ 8 (by kernel_rfl) (by kernel_rfl) (by kernel_rfl) (by kernel_rfl)) ?_
  intro W base args ds gs before hval0 hW hcnd _
  have hval : ∀ (j : Nat) t v, Try.f16.params[j]? = some t → args[j]? = some v → Value.okWide Try.prog W .any base t v := hval0
  have hW2 := hW
  obtain ⟨p, q, hA0, hV, rfl, hfz, hnd⟩ := hW
  have hA : DataW.TrodAll enc Try.prog W 0 (fun _ => true) true Try.f16.params.toList args.toList ds p := hA0
  rw [Try.params16] at hA hval
  obtain ⟨v0, vs0, d0, ds0, p0, q0, hargs, rfl, rfl, h0, r0⟩ := trodAll_cons hA
  obtain ⟨rfl, rfl, rfl⟩ := trodAll_nil r0
  obtain rfl : args = #[v0] := by cases args; simp_all
  obtain ⟨rfl, rfl⟩ := trodVars_none hV
  have k0 := h0
  have lt0 : ∀ x ∈ p0, x.block < W.heap.size := by obtain ⟨m, hm⟩ := k0; exact DataW.trod_lt m _ _ _ hm
  obtain ⟨x0, y0, rfl⟩ := open_Tape (hval 0 64 v0 rfl rfl) h0
  clear hA0 hval0
  refine (walk_FnExactOtDeal x0 y0 W ).mono fun e W2 ⟨he, bel⟩ => ?_
  subst he
  exact ⟨_, rfl, _, _, _, [], _, [], hW2, trodAll_mk1 (shut_bool Try.underlying4 _), (trodAll_cons_mk (Below.trod laidOut_yes (by kernel_rfl) (of_decide_eq_true (by kernel_rfl)) k0 bel lt0) trodAll_mk0), rfl, bel.frame _, fun h => by cases h⟩
theorem facts_FnExactOtDeal : joinedFacts Try.prog 16 Try.f16 Rows.fnExactOtDealSpec Rows.fnExactOtDealRow = true := by
  unfold joinedFacts
  rw [mayEnter_yes, liftsFinal_no, make_cut]
  kernel_rfl
theorem wrap_FnExactOtDeal : Try.f16.isWrapper Try.prog Rows.fnExactOtDealRow.wrapper Rows.fnExactOtDealRow.mainSum := by
  unfold Func.isWrapper
  rw [if_neg (of_decide_eq_false (by kernel_rfl))]
  exact ⟨rfl, rfl⟩
theorem inst_FnExactOtDeal : Try.f16.isInstance Try.prog Rows.fnExactOtDealRow.origin Rows.fnExactOtDealRow.targs := of_decide_eq_true (by kernel_rfl)
theorem named_FnExactOtDeal : Try.prog.funcNamed Rows.fnExactOtDealRow.func = some 16 := by kernel_rfl
theorem FnExactOtDeal_holds : Rows.FnExactOtDealSaid :=
  OpenClaim.holds_of_wide 16 Try.f16 rfl rfl rfl rfl rfl rfl rfl ⟨rfl, rfl, rfl, rfl, rfl⟩ rfl rfl rfl rfl rfl named_FnExactOtDeal Try.func16 facts_FnExactOtDeal
    inst_FnExactOtDeal wrap_FnExactOtDeal
    (fun os started H enc _ => lifted_FnExactOtDeal os started H enc)
#print axioms FnExactOtDeal_holds
end Go.Proofs.Ytakmgghjpompoaa

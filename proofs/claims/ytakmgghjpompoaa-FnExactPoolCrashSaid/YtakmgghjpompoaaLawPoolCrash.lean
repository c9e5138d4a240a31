/- Proved: for all arguments the law FnExactPoolCrash returns true (the program's PoolCrash answers as the reference's), and the arguments read behind the call as before. No condition. -/
import Derived.Test.YtakmgghjpompoaaPool
import Derived.Test.YtakmgghjpompoaaFacts
namespace Go.Proofs.Ytakmgghjpompoaa
set_option linter.unusedSimpArgs false
set_option linter.unusedVariables false
open Go.ChangeShapes Go.WideShapes Go.ChangeAt Go.RowKit
set_option maxRecDepth 100000 in
theorem lifted_FnExactPoolCrash (os : Os) (started : os.Started) (H : Type) (enc : TypeId × Value → H) :
    ReturnsInHanded {} Try.checked os 9 .any (Rows.fnExactPoolCrashSpec.pre6 enc Try.prog Try.f9 Rows.fnExactPoolCrashRow.domain false) (Rows.fnExactPoolCrashSpec.post enc Try.prog Try.f9 false true false false) := by
  refine returnsInHanded_of_change (C := Try.checked) ownKnob_none started (by kernel_rfl) Try.func9
    (ChangeSpec.witness6 (enc := enc) (C := Try.checked) false ⟨#[], #[.agg #[.int .i64 0, .int .i64 0, .int .i64 0]], []⟩ 8 (by kernel_rfl) (by kernel_rfl) (by kernel_rfl) (by kernel_rfl)) ?_
  intro W base args ds gs before hval0 hW hcnd _
  have hval : ∀ (j : Nat) t v, Try.f9.params[j]? = some t → args[j]? = some v → Value.okWide Try.prog W .any base t v := hval0
  have hW2 := hW
  obtain ⟨p, q, hA0, hV, rfl, hfz, hnd⟩ := hW
  have hA : DataW.TrodAll enc Try.prog W 0 (fun _ => true) true Try.f9.params.toList args.toList ds p := hA0
  rw [Try.params9] at hA hval
  obtain ⟨v0, vs0, d0, ds0, p0, q0, hargs, rfl, rfl, h0, r0⟩ := trodAll_cons hA
  obtain ⟨rfl, rfl, rfl⟩ := trodAll_nil r0
  obtain rfl : args = #[v0] := by cases args; simp_all
  obtain ⟨rfl, rfl⟩ := trodVars_none hV
  have k0 := h0
  have lt0 : ∀ x ∈ p0, x.block < W.heap.size := by obtain ⟨m, hm⟩ := k0; exact DataW.trod_lt m _ _ _ hm
  obtain ⟨x0, y0, z0, rfl⟩ := open_Pool (hval 0 23 v0 rfl rfl) h0
  clear hA0 hval0
  refine (walk_FnExactPoolCrash x0 y0 z0 W ).mono fun e W2 ⟨he, bel⟩ => ?_
  subst he
  exact ⟨_, rfl, _, _, _, [], _, [], hW2, trodAll_mk1 (shut_bool Try.underlying4 _), (trodAll_cons_mk (Below.trod laidOut_yes (by kernel_rfl) (of_decide_eq_true (by kernel_rfl)) k0 bel lt0) trodAll_mk0), rfl, bel.frame _, fun h => by cases h⟩
theorem facts_FnExactPoolCrash : joinedFacts Try.prog 9 Try.f9 Rows.fnExactPoolCrashSpec Rows.fnExactPoolCrashRow = true := by
  unfold joinedFacts
  rw [mayEnter_yes, liftsFinal_no, make_cut]
  kernel_rfl
theorem wrap_FnExactPoolCrash : Try.f9.isWrapper Try.prog Rows.fnExactPoolCrashRow.wrapper Rows.fnExactPoolCrashRow.mainSum := by
  unfold Func.isWrapper
  rw [if_neg (of_decide_eq_false (by kernel_rfl))]
  exact ⟨rfl, rfl⟩
theorem inst_FnExactPoolCrash : Try.f9.isInstance Try.prog Rows.fnExactPoolCrashRow.origin Rows.fnExactPoolCrashRow.targs := of_decide_eq_true (by kernel_rfl)
theorem named_FnExactPoolCrash : Try.prog.funcNamed Rows.fnExactPoolCrashRow.func = some 9 := by kernel_rfl
theorem FnExactPoolCrash_holds : Rows.FnExactPoolCrashSaid :=
  OpenClaim.holds_of_wide 9 Try.f9 rfl rfl rfl rfl rfl rfl rfl ⟨rfl, rfl, rfl, rfl, rfl⟩ rfl rfl rfl rfl rfl named_FnExactPoolCrash Try.func9 facts_FnExactPoolCrash
    inst_FnExactPoolCrash wrap_FnExactPoolCrash
    (fun os started H enc _ => lifted_FnExactPoolCrash os started H enc)
#print axioms FnExactPoolCrash_holds
end Go.Proofs.Ytakmgghjpompoaa

/- Proved: for all arguments the law FnExactOutputHashes returns true (the program's OutputHashes answers as the reference's), and the arguments read behind the call as before. No condition. -/
import Derived.Test.YtodnahpegecpiaaLawOutputHashesWalk
import Derived.Test.YtodnahpegecpiaaFacts
import Derived.Test.YtodnahpegecpiaaOpenG
namespace Go.Proofs.Ytodnahpegecpiaa
set_option linter.unusedSimpArgs false
set_option linter.unusedVariables false
open Go.ChangeShapes Go.WideShapes Go.ChangeAt Go.RowKit
set_option maxRecDepth 100000 in
theorem lifted_FnExactOutputHashes (os : Os) (started : os.Started) (H : Type) (enc : TypeId × Value → H) :
    ReturnsInHanded {} Try.checked os 16 .any (Rows.fnExactOutputHashesSpec.pre6 enc Try.prog Try.f16 Rows.fnExactOutputHashesRow.domain false) (Rows.fnExactOutputHashesSpec.post enc Try.prog Try.f16 false true false false) := by
  refine returnsInHanded_of_change (C := Try.checked) ownKnob_none started (by kernel_rfl) Try.func16
    (ChangeSpec.witness6 (enc := enc) (C := Try.checked) false ⟨#[], #[.agg #[.slice none 0 0, .slice none 0 0], .agg #[.int .i64 0, .slice none 0 0, .slice none 0 0]], []⟩ 8 (by kernel_rfl) (by kernel_rfl) (by kernel_rfl) (by kernel_rfl)) ?_
  intro W base args ds gs before hval0 hW hcnd _
  have hval : ∀ (j : Nat) t v, Try.f16.params[j]? = some t → args[j]? = some v → Value.okWide Try.prog W .any base t v := hval0
  have hW2 := hW
  obtain ⟨p, q, hA0, hV, rfl, hfz, hnd⟩ := hW
  have hA : DataW.TrodAll enc Try.prog W 0 (fun _ => true) true Try.f16.params.toList args.toList ds p := hA0
  rw [Try.params16] at hA hval
  obtain ⟨v0, vs0, d0, ds0, p0, q0, hargs, rfl, rfl, h0, r0⟩ := trodAll_cons hA
  obtain ⟨v1, vs1, d1, ds1, p1, q1, rfl, rfl, rfl, h1, r1⟩ := trodAll_cons r0
  obtain ⟨rfl, rfl, rfl⟩ := trodAll_nil r1
  obtain rfl : args = #[v0, v1] := by cases args; simp_all
  obtain ⟨rfl, rfl⟩ := trodVars_none hV
  have k0 := h0
  have lt0 : ∀ x ∈ p0, x.block < W.heap.size := by obtain ⟨m, hm⟩ := k0; exact DataW.trod_lt m _ _ _ hm
  obtain ⟨u0, z0, l0, m0, rfl, hx0, hy0⟩ := open_Circuit (hval 0 63 v0 rfl rfl) h0
  have k1 := h1
  have lt1 : ∀ x ∈ p1, x.block < W.heap.size := by obtain ⟨m, hm⟩ := k1; exact DataW.trod_lt m _ _ _ hm
  obtain ⟨x1, u1, z1, l1, m1, rfl, hx1, hy1⟩ := open_Garbled (hval 1 75 v1 rfl rfl) h1
  clear hA0 hval0
  refine (walk_FnExactOutputHashes u0 l0 z0 m0 x1 u1 l1 z1 m1 W hx0 hy0 hx1 hy1).mono fun e W2 ⟨he, bel⟩ => ?_
  subst he
  exact ⟨_, rfl, _, _, _, [], _, [], hW2, trodAll_mk1 (shut_bool Try.underlying4 _), (trodAll_cons_mk (Below.trod laidOut_yes (by kernel_rfl) (of_decide_eq_true (by kernel_rfl)) k0 bel lt0) (trodAll_cons_mk (Below.trod laidOut_yes (by kernel_rfl) (of_decide_eq_true (by kernel_rfl)) k1 bel lt1) trodAll_mk0)), rfl, bel.frame _, fun h => by cases h⟩
theorem facts_FnExactOutputHashes : joinedFacts Try.prog 16 Try.f16 Rows.fnExactOutputHashesSpec Rows.fnExactOutputHashesRow = true := by
  unfold joinedFacts
  rw [mayEnter_yes, liftsFinal_no, make_cut]
  kernel_rfl
theorem wrap_FnExactOutputHashes : Try.f16.isWrapper Try.prog Rows.fnExactOutputHashesRow.wrapper Rows.fnExactOutputHashesRow.mainSum := by
  unfold Func.isWrapper
  rw [if_neg (of_decide_eq_false (by kernel_rfl))]
  exact ⟨rfl, rfl⟩
theorem inst_FnExactOutputHashes : Try.f16.isInstance Try.prog Rows.fnExactOutputHashesRow.origin Rows.fnExactOutputHashesRow.targs := of_decide_eq_true (by kernel_rfl)
theorem named_FnExactOutputHashes : Try.prog.funcNamed Rows.fnExactOutputHashesRow.func = some 16 := by kernel_rfl
theorem FnExactOutputHashes_holds : Rows.FnExactOutputHashesSaid :=
  OpenClaim.holds_of_wide 16 Try.f16 rfl rfl rfl rfl rfl rfl rfl ⟨rfl, rfl, rfl, rfl, rfl⟩ rfl rfl rfl rfl rfl named_FnExactOutputHashes Try.func16 facts_FnExactOutputHashes
    inst_FnExactOutputHashes wrap_FnExactOutputHashes
    (fun os started H enc _ => lifted_FnExactOutputHashes os started H enc)
#print axioms FnExactOutputHashes_holds
end Go.Proofs.Ytodnahpegecpiaa

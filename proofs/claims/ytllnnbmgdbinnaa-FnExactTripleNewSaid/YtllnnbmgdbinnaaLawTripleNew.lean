/- Proved: for all arguments the law FnExactTripleNew returns true (the program's TripleNew answers as the reference's), and the arguments read behind the call as before. No condition. -/
import Derived.Test.YtllnnbmgdbinnaaLawTripleNewWalk
import Derived.Test.YtllnnbmgdbinnaaFacts
import Derived.Test.YtllnnbmgdbinnaaOpenK
namespace Go.Proofs.Ytllnnbmgdbinnaa
set_option linter.unusedSimpArgs false
set_option linter.unusedVariables false
open Go.ChangeShapes Go.WideShapes Go.ChangeAt Go.RowKit
set_option maxRecDepth 100000 in
theorem lifted_FnExactTripleNew (os : Os) (started : os.Started) (H : Type) (enc : TypeId × Value → H) :
    ReturnsInHanded {} Try.checked os 24 .any (Rows.fnExactTripleNewSpec.pre6 enc Try.prog Try.f24 Rows.fnExactTripleNewRow.domain false) (Rows.fnExactTripleNewSpec.post enc Try.prog Try.f24 false true false false) := by
  refine returnsInHanded_of_change (C := Try.checked) ownKnob_none started (by kernel_rfl) Try.func24
    (ChangeSpec.witness6 (enc := enc) (C := Try.checked) false ⟨#[], #[.agg #[.int .i64 0, .slice none 0 0], .agg #[.int .i64 0, .int .i64 0]], []⟩ 8 (by kernel_rfl) (by kernel_rfl) (by kernel_rfl) (by kernel_rfl)) ?_
  intro W base args ds gs before hval0 hW hcnd _
  have hval : ∀ (j : Nat) t v, Try.f24.params[j]? = some t → args[j]? = some v → Value.okWide Try.prog W .any base t v := hval0
  have hW2 := hW
  obtain ⟨p, q, hA0, hV, rfl, hfz, hnd⟩ := hW
  have hA : DataW.TrodAll enc Try.prog W 0 (fun _ => true) true Try.f24.params.toList args.toList ds p := hA0
  rw [Try.params24] at hA hval
  obtain ⟨v0, vs0, d0, ds0, p0, q0, hargs, rfl, rfl, h0, r0⟩ := trodAll_cons hA
  obtain ⟨v1, vs1, d1, ds1, p1, q1, rfl, rfl, rfl, h1, r1⟩ := trodAll_cons r0
  obtain ⟨rfl, rfl, rfl⟩ := trodAll_nil r1
  obtain rfl : args = #[v0, v1] := by cases args; simp_all
  obtain ⟨rfl, rfl⟩ := trodVars_none hV
  have k0 := h0
  have lt0 : ∀ x ∈ p0, x.block < W.heap.size := by obtain ⟨m, hm⟩ := k0; exact DataW.trod_lt m _ _ _ hm
  obtain ⟨x0, u0, l0, rfl, hx0⟩ := open_Keys (hval 0 30 v0 rfl rfl) h0
  have k1 := h1
  have lt1 : ∀ x ∈ p1, x.block < W.heap.size := by obtain ⟨m, hm⟩ := k1; exact DataW.trod_lt m _ _ _ hm
  obtain ⟨x1, y1, rfl⟩ := open_Tape (hval 1 51 v1 rfl rfl) h1
  clear hA0 hval0
  refine (walk_FnExactTripleNew x0 u0 l0 x1 y1 W hx0).mono fun e W2 ⟨he, bel⟩ => ?_
  subst he
  exact ⟨_, rfl, _, _, _, [], _, [], hW2, trodAll_mk1 (shut_bool Try.underlying4 _), (trodAll_cons_mk (Below.trod laidOut_yes (by kernel_rfl) (of_decide_eq_true (by kernel_rfl)) k0 bel lt0) (trodAll_cons_mk (Below.trod laidOut_yes (by kernel_rfl) (of_decide_eq_true (by kernel_rfl)) k1 bel lt1) trodAll_mk0)), rfl, bel.frame _, fun h => by cases h⟩
theorem facts_FnExactTripleNew : joinedFacts Try.prog 24 Try.f24 Rows.fnExactTripleNewSpec Rows.fnExactTripleNewRow = true := by
  unfold joinedFacts
  rw [mayEnter_yes, liftsFinal_no, make_cut]
  kernel_rfl
theorem wrap_FnExactTripleNew : Try.f24.isWrapper Try.prog Rows.fnExactTripleNewRow.wrapper Rows.fnExactTripleNewRow.mainSum := by
  unfold Func.isWrapper
  rw [if_neg (of_decide_eq_false (by kernel_rfl))]
  exact ⟨rfl, rfl⟩
theorem inst_FnExactTripleNew : Try.f24.isInstance Try.prog Rows.fnExactTripleNewRow.origin Rows.fnExactTripleNewRow.targs := of_decide_eq_true (by kernel_rfl)
theorem named_FnExactTripleNew : Try.prog.funcNamed Rows.fnExactTripleNewRow.func = some 24 := by kernel_rfl
theorem FnExactTripleNew_holds : Rows.FnExactTripleNewSaid :=
  OpenClaim.holds_of_wide 24 Try.f24 rfl rfl rfl rfl rfl rfl rfl ⟨rfl, rfl, rfl, rfl, rfl⟩ rfl rfl rfl rfl rfl named_FnExactTripleNew Try.func24 facts_FnExactTripleNew
    inst_FnExactTripleNew wrap_FnExactTripleNew
    (fun os started H enc _ => lifted_FnExactTripleNew os started H enc)
#print axioms FnExactTripleNew_holds
end Go.Proofs.Ytllnnbmgdbinnaa

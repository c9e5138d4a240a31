/- Proved: for all arguments the law FnExactCountPassingR returns true (the program's CountPassingR answers as the reference's), and the arguments read behind the call as before. No condition. -/
import Derived.Test.YtllnnbmgdbinnaaLawCountPassingRWalk
import Derived.Test.YtllnnbmgdbinnaaFacts
import Derived.Test.YtllnnbmgdbinnaaOpenK
namespace Go.Proofs.Ytllnnbmgdbinnaa
set_option linter.unusedSimpArgs false
set_option linter.unusedVariables false
open Go.ChangeShapes Go.WideShapes Go.ChangeAt Go.RowKit
set_option maxRecDepth 100000 in
theorem lifted_FnExactCountPassingR (os : Os) (started : os.Started) (H : Type) (enc : TypeId × Value → H) :
    ReturnsInHanded {} Try.checked os 19 .any (Rows.fnExactCountPassingRSpec.pre6 enc Try.prog Try.f19 Rows.fnExactCountPassingRRow.domain false) (Rows.fnExactCountPassingRSpec.post enc Try.prog Try.f19 false true false false) := by
  refine returnsInHanded_of_change (C := Try.checked) ownKnob_none started (by kernel_rfl) Try.func19
    (ChangeSpec.witness6 (enc := enc) (C := Try.checked) false ⟨#[], #[.agg #[.int .i64 0, .slice none 0 0], .agg #[.slice none 0 0, .slice none 0 0, .slice none 0 0, .slice none 0 0, .slice none 0 0, .slice none 0 0], .agg #[.slice none 0 0, .slice none 0 0, .slice none 0 0, .slice none 0 0, .slice none 0 0, .slice none 0 0]], []⟩ 8 (by kernel_rfl) (by kernel_rfl) (by kernel_rfl) (by kernel_rfl)) ?_
  intro W base args ds gs before hval0 hW hcnd _
  have hval : ∀ (j : Nat) t v, Try.f19.params[j]? = some t → args[j]? = some v → Value.okWide Try.prog W .any base t v := hval0
  have hW2 := hW
  obtain ⟨p, q, hA0, hV, rfl, hfz, hnd⟩ := hW
  have hA : DataW.TrodAll enc Try.prog W 0 (fun _ => true) true Try.f19.params.toList args.toList ds p := hA0
  rw [Try.params19] at hA hval
  obtain ⟨v0, vs0, d0, ds0, p0, q0, hargs, rfl, rfl, h0, r0⟩ := trodAll_cons hA
  obtain ⟨v1, vs1, d1, ds1, p1, q1, rfl, rfl, rfl, h1, r1⟩ := trodAll_cons r0
  obtain ⟨v2, vs2, d2, ds2, p2, q2, rfl, rfl, rfl, h2, r2⟩ := trodAll_cons r1
  obtain ⟨rfl, rfl, rfl⟩ := trodAll_nil r2
  obtain rfl : args = #[v0, v1, v2] := by cases args; simp_all
  obtain ⟨rfl, rfl⟩ := trodVars_none hV
  have k0 := h0
  have lt0 : ∀ x ∈ p0, x.block < W.heap.size := by obtain ⟨m, hm⟩ := k0; exact DataW.trod_lt m _ _ _ hm
  obtain ⟨x0, u0, l0, rfl, hx0⟩ := open_Keys (hval 0 30 v0 rfl rfl) h0
  have k1 := h1
  have lt1 : ∀ x ∈ p1, x.block < W.heap.size := by obtain ⟨m, hm⟩ := k1; exact DataW.trod_lt m _ _ _ hm
  obtain ⟨ua1, ub1, uc1, ud1, ue1, uf1, la1, lb1, lc1, ld1, le1, lf1, rfl, ha1, hb1, hc1, hd1, he1, hf1⟩ := open_Triple (hval 1 64 v1 rfl rfl) h1
  have k2 := h2
  have lt2 : ∀ x ∈ p2, x.block < W.heap.size := by obtain ⟨m, hm⟩ := k2; exact DataW.trod_lt m _ _ _ hm
  obtain ⟨ua2, ub2, uc2, ud2, ue2, uf2, la2, lb2, lc2, ld2, le2, lf2, rfl, ha2, hb2, hc2, hd2, he2, hf2⟩ := open_Triple (hval 2 64 v2 rfl rfl) h2
  clear hA0 hval0
  refine (walk_FnExactCountPassingR x0 u0 l0 ua1 la1 ub1 lb1 uc1 lc1 ud1 ld1 ue1 le1 uf1 lf1 ua2 la2 ub2 lb2 uc2 lc2 ud2 ld2 ue2 le2 uf2 lf2 W hx0 ha1 hb1 hc1 hd1 he1 hf1 ha2 hb2 hc2 hd2 he2 hf2).mono fun e W2 ⟨he, bel⟩ => ?_
  subst he
  exact ⟨_, rfl, _, _, _, [], _, [], hW2, trodAll_mk1 (shut_bool Try.underlying4 _), (trodAll_cons_mk (Below.trod laidOut_yes (by kernel_rfl) (of_decide_eq_true (by kernel_rfl)) k0 bel lt0) (trodAll_cons_mk (Below.trod laidOut_yes (by kernel_rfl) (of_decide_eq_true (by kernel_rfl)) k1 bel lt1) (trodAll_cons_mk (Below.trod laidOut_yes (by kernel_rfl) (of_decide_eq_true (by kernel_rfl)) k2 bel lt2) trodAll_mk0))), rfl, bel.frame _, fun h => by cases h⟩
theorem facts_FnExactCountPassingR : joinedFacts Try.prog 19 Try.f19 Rows.fnExactCountPassingRSpec Rows.fnExactCountPassingRRow = true := by
  unfold joinedFacts
  rw [mayEnter_yes, liftsFinal_no, make_cut]
  kernel_rfl
theorem wrap_FnExactCountPassingR : Try.f19.isWrapper Try.prog Rows.fnExactCountPassingRRow.wrapper Rows.fnExactCountPassingRRow.mainSum := by
  unfold Func.isWrapper
  rw [if_neg (of_decide_eq_false (by kernel_rfl))]
  exact ⟨rfl, rfl⟩
theorem inst_FnExactCountPassingR : Try.f19.isInstance Try.prog Rows.fnExactCountPassingRRow.origin Rows.fnExactCountPassingRRow.targs := of_decide_eq_true (by kernel_rfl)
theorem named_FnExactCountPassingR : Try.prog.funcNamed Rows.fnExactCountPassingRRow.func = some 19 := by kernel_rfl
theorem FnExactCountPassingR_holds : Rows.FnExactCountPassingRSaid :=
  OpenClaim.holds_of_wide 19 Try.f19 rfl rfl rfl rfl rfl rfl rfl ⟨rfl, rfl, rfl, rfl, rfl⟩ rfl rfl rfl rfl rfl named_FnExactCountPassingR Try.func19 facts_FnExactCountPassingR
    inst_FnExactCountPassingR wrap_FnExactCountPassingR
    (fun os started H enc _ => lifted_FnExactCountPassingR os started H enc)
#print axioms FnExactCountPassingR_holds
end Go.Proofs.Ytllnnbmgdbinnaa

/- Proved: for all arguments the law FnExactRunGarbled returns true (the program's RunGarbled answers as the reference's), and the arguments read behind the call as before. No condition. -/
import Derived.Test.YtodnahpegecpiaaLawRunGarbledWalk
import Derived.Test.YtodnahpegecpiaaFacts
import Derived.Test.YtodnahpegecpiaaOpenG
namespace Go.Proofs.Ytodnahpegecpiaa
set_option linter.unusedSimpArgs false
set_option linter.unusedVariables false
open Go.ChangeShapes Go.WideShapes Go.ChangeAt Go.RowKit
set_option maxRecDepth 100000 in
theorem lifted_FnExactRunGarbled (os : Os) (started : os.Started) (H : Type) (enc : TypeId × Value → H) :
    ReturnsInHanded {} Try.checked os 21 .any (Rows.fnExactRunGarbledSpec.pre6 enc Try.prog Try.f21 Rows.fnExactRunGarbledRow.domain false) (Rows.fnExactRunGarbledSpec.post enc Try.prog Try.f21 false true false false) := by
  refine returnsInHanded_of_change (C := Try.checked) ownKnob_none started (by kernel_rfl) Try.func21
    (ChangeSpec.witness6 (enc := enc) (C := Try.checked) false ⟨#[], #[.agg #[.slice none 0 0, .slice none 0 0], .agg #[.int .i64 0, .int .i64 0], .slice none 0 0], []⟩ 8 (by kernel_rfl) (by kernel_rfl) (by kernel_rfl) (by kernel_rfl)) ?_
  intro W base args ds gs before hval0 hW hcnd _
  have hval : ∀ (j : Nat) t v, Try.f21.params[j]? = some t → args[j]? = some v → Value.okWide Try.prog W .any base t v := hval0
  have hW2 := hW
  obtain ⟨p, q, hA0, hV, rfl, hfz, hnd⟩ := hW
  have hA : DataW.TrodAll enc Try.prog W 0 (fun _ => true) true Try.f21.params.toList args.toList ds p := hA0
  rw [Try.params21] at hA hval
  obtain ⟨v0, vs0, d0, ds0, p0, q0, hargs, rfl, rfl, h0, r0⟩ := trodAll_cons hA
  obtain ⟨v1, vs1, d1, ds1, p1, q1, rfl, rfl, rfl, h1, r1⟩ := trodAll_cons r0
  obtain ⟨v2, vs2, d2, ds2, p2, q2, rfl, rfl, rfl, h2, r2⟩ := trodAll_cons r1
  obtain ⟨rfl, rfl, rfl⟩ := trodAll_nil r2
  obtain rfl : args = #[v0, v1, v2] := by cases args; simp_all
  obtain ⟨rfl, rfl⟩ := trodVars_none hV
  have k0 := h0
  have lt0 : ∀ x ∈ p0, x.block < W.heap.size := by obtain ⟨m, hm⟩ := k0; exact DataW.trod_lt m _ _ _ hm
  obtain ⟨u0, z0, l0, m0, rfl, hx0, hy0⟩ := open_Circuit (hval 0 63 v0 rfl rfl) h0
  have k1 := h1
  have lt1 : ∀ x ∈ p1, x.block < W.heap.size := by obtain ⟨m, hm⟩ := k1; exact DataW.trod_lt m _ _ _ hm
  obtain ⟨x1, y1, rfl⟩ := open_Tape (hval 1 69 v1 rfl rfl) h1
  have k2 := h2
  have lt2 : ∀ x ∈ p2, x.block < W.heap.size := by obtain ⟨m, hm⟩ := k2; exact DataW.trod_lt m _ _ _ hm
  obtain ⟨l2, hx2⟩ := open_Rd (hval 2 25 v2 rfl rfl) h2
  clear hA0 hval0
  refine (walk_FnExactRunGarbled u0 l0 z0 m0 x1 y1 v2 l2 W hx0 hy0 hx2).mono fun e W2 ⟨he, bel⟩ => ?_
  subst he
  exact ⟨_, rfl, _, _, _, [], _, [], hW2, trodAll_mk1 (shut_bool Try.underlying4 _), (trodAll_cons_mk (Below.trod laidOut_yes (by kernel_rfl) (of_decide_eq_true (by kernel_rfl)) k0 bel lt0) (trodAll_cons_mk (Below.trod laidOut_yes (by kernel_rfl) (of_decide_eq_true (by kernel_rfl)) k1 bel lt1) (trodAll_cons_mk (Below.trod laidOut_yes (by kernel_rfl) (of_decide_eq_true (by kernel_rfl)) k2 bel lt2) trodAll_mk0))), rfl, bel.frame _, fun h => by cases h⟩
theorem facts_FnExactRunGarbled : joinedFacts Try.prog 21 Try.f21 Rows.fnExactRunGarbledSpec Rows.fnExactRunGarbledRow = true := by
  unfold joinedFacts
  rw [mayEnter_yes, liftsFinal_no, make_cut]
  kernel_rfl
theorem wrap_FnExactRunGarbled : Try.f21.isWrapper Try.prog Rows.fnExactRunGarbledRow.wrapper Rows.fnExactRunGarbledRow.mainSum := by
  unfold Func.isWrapper
  rw [if_neg (of_decide_eq_false (by kernel_rfl))]
  exact ⟨rfl, rfl⟩
theorem inst_FnExactRunGarbled : Try.f21.isInstance Try.prog Rows.fnExactRunGarbledRow.origin Rows.fnExactRunGarbledRow.targs := of_decide_eq_true (by kernel_rfl)
theorem named_FnExactRunGarbled : Try.prog.funcNamed Rows.fnExactRunGarbledRow.func = some 21 := by kernel_rfl
theorem FnExactRunGarbled_holds : Rows.FnExactRunGarbledSaid :=
  OpenClaim.holds_of_wide 21 Try.f21 rfl rfl rfl rfl rfl rfl rfl ⟨rfl, rfl, rfl, rfl, rfl⟩ rfl rfl rfl rfl rfl named_FnExactRunGarbled Try.func21 facts_FnExactRunGarbled
    inst_FnExactRunGarbled wrap_FnExactRunGarbled
    (fun os started H enc _ => lifted_FnExactRunGarbled os started H enc)
#print axioms FnExactRunGarbled_holds
end Go.Proofs.Ytodnahpegecpiaa

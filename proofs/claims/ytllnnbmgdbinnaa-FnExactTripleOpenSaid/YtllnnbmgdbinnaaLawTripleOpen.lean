/- Proved: for all arguments the law FnExactTripleOpen returns true (the program's TripleOpen answers as the reference's), and the arguments read behind the call as before. No condition. -/
import Derived.Test.YtllnnbmgdbinnaaLawTripleOpenWalk
import Derived.Test.YtllnnbmgdbinnaaFacts
import Derived.Test.YtllnnbmgdbinnaaOpenK
namespace Go.Proofs.Ytllnnbmgdbinnaa
set_option linter.unusedSimpArgs false
set_option linter.unusedVariables false
open Go.ChangeShapes Go.WideShapes Go.ChangeAt Go.RowKit
set_option maxRecDepth 100000 in
theorem lifted_FnExactTripleOpen (os : Os) (started : os.Started) (H : Type) (enc : TypeId × Value → H) :
    ReturnsInHanded {} Try.checked os 14 .any (Rows.fnExactTripleOpenSpec.pre6 enc Try.prog Try.f14 Rows.fnExactTripleOpenRow.domain false) (Rows.fnExactTripleOpenSpec.post enc Try.prog Try.f14 false true false false) := by
  refine returnsInHanded_of_change (C := Try.checked) ownKnob_none started (by kernel_rfl) Try.func14
    (ChangeSpec.witness6 (enc := enc) (C := Try.checked) false ⟨#[], #[.agg #[.int .i64 0, .slice none 0 0], .agg #[.slice none 0 0, .slice none 0 0], .agg #[.slice none 0 0, .slice none 0 0], .agg #[.slice none 0 0, .slice none 0 0, .slice none 0 0, .slice none 0 0, .slice none 0 0, .slice none 0 0]], []⟩ 8 (by kernel_rfl) (by kernel_rfl) (by kernel_rfl) (by kernel_rfl)) ?_
  intro W base args ds gs before hval0 hW hcnd _
  have hval : ∀ (j : Nat) t v, Try.f14.params[j]? = some t → args[j]? = some v → Value.okWide Try.prog W .any base t v := hval0
  have hW2 := hW
  obtain ⟨p, q, hA0, hV, rfl, hfz, hnd⟩ := hW
  have hA : DataW.TrodAll enc Try.prog W 0 (fun _ => true) true Try.f14.params.toList args.toList ds p := hA0
  rw [Try.params14] at hA hval
  obtain ⟨v0, vs0, d0, ds0, p0, q0, hargs, rfl, rfl, h0, r0⟩ := trodAll_cons hA
  obtain ⟨v1, vs1, d1, ds1, p1, q1, rfl, rfl, rfl, h1, r1⟩ := trodAll_cons r0
  obtain ⟨v2, vs2, d2, ds2, p2, q2, rfl, rfl, rfl, h2, r2⟩ := trodAll_cons r1
  obtain ⟨v3, vs3, d3, ds3, p3, q3, rfl, rfl, rfl, h3, r3⟩ := trodAll_cons r2
  obtain ⟨rfl, rfl, rfl⟩ := trodAll_nil r3
  obtain rfl : args = #[v0, v1, v2, v3] := by cases args; simp_all
  obtain ⟨rfl, rfl⟩ := trodVars_none hV
  have k0 := h0
  have lt0 : ∀ x ∈ p0, x.block < W.heap.size := by obtain ⟨m, hm⟩ := k0; exact DataW.trod_lt m _ _ _ hm
  obtain ⟨x0, u0, l0, rfl, hx0⟩ := open_Keys (hval 0 30 v0 rfl rfl) h0
  have k1 := h1
  have lt1 : ∀ x ∈ p1, x.block < W.heap.size := by obtain ⟨m, hm⟩ := k1; exact DataW.trod_lt m _ _ _ hm
  obtain ⟨u1, z1, l1, m1, rfl, hx1, hy1⟩ := open_Auth (hval 1 44 v1 rfl rfl) h1
  have k2 := h2
  have lt2 : ∀ x ∈ p2, x.block < W.heap.size := by obtain ⟨m, hm⟩ := k2; exact DataW.trod_lt m _ _ _ hm
  obtain ⟨u2, z2, l2, m2, rfl, hx2, hy2⟩ := open_Auth (hval 2 44 v2 rfl rfl) h2
  have k3 := h3
  have lt3 : ∀ x ∈ p3, x.block < W.heap.size := by obtain ⟨m, hm⟩ := k3; exact DataW.trod_lt m _ _ _ hm
  obtain ⟨ua3, ub3, uc3, ud3, ue3, uf3, la3, lb3, lc3, ld3, le3, lf3, rfl, ha3, hb3, hc3, hd3, he3, hf3⟩ := open_Triple (hval 3 64 v3 rfl rfl) h3
  clear hA0 hval0
  refine (walk_FnExactTripleOpen x0 u0 l0 u1 l1 z1 m1 u2 l2 z2 m2 ua3 la3 ub3 lb3 uc3 lc3 ud3 ld3 ue3 le3 uf3 lf3 W hx0 hx1 hy1 hx2 hy2 ha3 hb3 hc3 hd3 he3 hf3).mono fun e W2 ⟨he, bel⟩ => ?_
  subst he
  exact ⟨_, rfl, _, _, _, [], _, [], hW2, trodAll_mk1 (shut_bool Try.underlying4 _), (trodAll_cons_mk (Below.trod laidOut_yes (by kernel_rfl) (of_decide_eq_true (by kernel_rfl)) k0 bel lt0) (trodAll_cons_mk (Below.trod laidOut_yes (by kernel_rfl) (of_decide_eq_true (by kernel_rfl)) k1 bel lt1) (trodAll_cons_mk (Below.trod laidOut_yes (by kernel_rfl) (of_decide_eq_true (by kernel_rfl)) k2 bel lt2) (trodAll_cons_mk (Below.trod laidOut_yes (by kernel_rfl) (of_decide_eq_true (by kernel_rfl)) k3 bel lt3) trodAll_mk0)))), rfl, bel.frame _, fun h => by cases h⟩
theorem facts_FnExactTripleOpen : joinedFacts Try.prog 14 Try.f14 Rows.fnExactTripleOpenSpec Rows.fnExactTripleOpenRow = true := by
  unfold joinedFacts
  rw [mayEnter_yes, liftsFinal_no, make_cut]
  kernel_rfl
theorem wrap_FnExactTripleOpen : Try.f14.isWrapper Try.prog Rows.fnExactTripleOpenRow.wrapper Rows.fnExactTripleOpenRow.mainSum := by
  unfold Func.isWrapper
  rw [if_neg (of_decide_eq_false (by kernel_rfl))]
  exact ⟨rfl, rfl⟩
theorem inst_FnExactTripleOpen : Try.f14.isInstance Try.prog Rows.fnExactTripleOpenRow.origin Rows.fnExactTripleOpenRow.targs := of_decide_eq_true (by kernel_rfl)
theorem named_FnExactTripleOpen : Try.prog.funcNamed Rows.fnExactTripleOpenRow.func = some 14 := by kernel_rfl
theorem FnExactTripleOpen_holds : Rows.FnExactTripleOpenSaid :=
  OpenClaim.holds_of_wide 14 Try.f14 rfl rfl rfl rfl rfl rfl rfl ⟨rfl, rfl, rfl, rfl, rfl⟩ rfl rfl rfl rfl rfl named_FnExactTripleOpen Try.func14 facts_FnExactTripleOpen
    inst_FnExactTripleOpen wrap_FnExactTripleOpen
    (fun os started H enc _ => lifted_FnExactTripleOpen os started H enc)
#print axioms FnExactTripleOpen_holds
end Go.Proofs.Ytllnnbmgdbinnaa

/- Proved: for all arguments the law FnGarbled returns true, and the arguments read behind the call as before. No condition. -/
import Derived.Test.YtodnahpegecpiaaDrw
import Derived.Test.YtodnahpegecpiaaRug
import Derived.Test.YtodnahpegecpiaaEww
import Derived.Test.YtodnahpegecpiaaOpenS
import Derived.Test.YtodnahpegecpiaaFacts
namespace Go.Proofs.Ytodnahpegecpiaa
set_option linter.unusedSimpArgs false
set_option linter.unusedVariables false
open Go.RowKit
set_option maxRecDepth 100000 in
set_option maxHeartbeats 10000000 in
theorem walk_FnGarbled (A : Option Addr) (n c : Nat) (w : World) (hx : Bts0 w A n) :
  Calls Try.prog 17 #[.slice A n c] w fun e w' => e = .returned (.bool true) ∧ Below w.heap.size w w' := by
 by_cases hn : (1048576 : Int) < n
 ·go_enter Try.func17, Try.ntmps17
  go_wp2_with fail
  refine (big_any _ _ _ _).mono ?_
  rintro e w1 ⟨rfl, rfl⟩
  go_wp2
  go_ret
  exact ⟨rfl, Below.refl _ _⟩
 ·have hB0 : Bts w A n := ⟨by omega, hx.2⟩
  go_enter Try.func17, Try.ntmps17
  go_wp2_with fail
  refine (big_any _ _ _ _).mono ?_
  rintro e w_ ⟨rfl, rfl⟩
  go_wp2_with fail
  refine (DrawGarbling_any n c A _ hB0).mono ?_
  rintro e w1 ⟨cA0, cn0, cc0, cA1, cn1, cc1, yA0, yn0, yc0, cL0, cL1, yL0, tI0, tI1, rfl, rd, hc, hg24, ho1, ho4, hbits, hdl, b1⟩
  have B1 := b1
  have z1 := b1.size
  have cL0n : cL0.length ≤ 1048576 := by omega
  have cL1n : cL1.length ≤ 1048576 := by omega
  have yl80 := Lib.hid (bits80 hbits).2
  have hyb := Lib.hid (bits80 hbits).1
  have yL0n : yL0.length ≤ 1048576 := by have := yl80.out; omega
  have hgar : Hid (garbOk cL0 cL1 tI0 tI1 = true) := by show _ = _; rw [garbOk, hc, hdl]; rfl
  have hrg : Hid (rgOk cL0 cL1 tI0 tI1 yL0 = true) := by show _ = _; rw [rgOk, hgar.out, hbits]; rfl
  have hec : Hid (ecOk cL0 cL1 yL0 = true) := by show _ = _; rw [ecOk, hc, hbits]; rfl
  have hgb := Lib.hid (gar_gb hgar.out)
  have hpb := Lib.hid (rg_pb hrg.out)
  have hZn : (garZ cL0 cL1 tI0 tI1).length ≤ 1048576 := Nat.le_trans (garZ_len _ _ _ _) cL0n
  have hTn : (garT cL0 cL1 tI0 tI1).length ≤ 1048576 := Nat.le_trans (garT_len _ _ _ _) (by omega)
  have hK := Lib.hid hc
  have hD := Lib.hid hdl
  have hB := Lib.hid hbits
  clear b1 hc hdl hbits
  go_wp2_with fail
  refine (sEvalCircuit_L (RdL.sub (ls2 := [(.slice cA0 cn0 cc0, .gates cL0), (.slice cA1 cn1 cc1, .ints cL1)]) (((rd.alloc _).alloc _)).rd (by simp)) cL0n cL1n (RdL.sub (ls2 := [(.slice yA0 yn0 yc0, .ints yL0)]) (((rd.alloc _).alloc _)).rd (by simp)) yL0n).mono ?_
  rintro e w2 ⟨aA, an, ac, rfl, ra, b2⟩
  have z2 := b2.size
  try simp only [World.size_alloc, World.size_setCell, size_drew] at z2
  have B2 : Below w.heap.size w w2 := Below.t b2
  have rd_ := ((rd.alloc _).alloc _).below b2
  clear rd; have rd := rd_; clear rd_
  have xc_ : Box w2 (w1.heap.size) #[.slice cA0 cn0 cc0, .slice cA1 cn1 cc1] 27 := ((Box.new (g := w1.heap.size) _ #[.slice cA0 cn0 cc0, .slice cA1 cn1 cc1] 27 (by simp)).alloc _).below b2 (by first | omega | (simp [size_drew]; done) | (simp [size_drew]; omega))
  have xc := xc_; clear xc_
  have xt_ : Box w2 (w1.heap.size + 1) #[.int .i64 tI0, .int .i64 tI1] 29 := (Box.new (g := w1.heap.size + 1) _ #[.int .i64 tI0, .int .i64 tI1] 29 (by simp)).below b2 (by first | omega | (simp [size_drew]; done) | (simp [size_drew]; omega))
  have xt := xt_; clear xt_
  try simp only [World.size_alloc, World.size_setCell, size_drew] at ra
  obtain ⟨cxc_0, cxc_1, fxc_0, fxc_1⟩ := xc.two
  have l_xc_0 : w1.heap.size < w2.heap.size := by omega
  obtain ⟨cxt_0, cxt_1, fxt_0, fxt_1⟩ := xt.two
  have l_xt_0 : w1.heap.size + 1 < w2.heap.size := by omega
  go_wp2_with fail
  refine (iRunGarbled_L (RdL.sub (ls2 := [(.slice cA0 cn0 cc0, .gates cL0), (.slice cA1 cn1 cc1, .ints cL1)]) (rd).rd (by simp)) cL0n cL1n tI0 tI1 (RdL.sub (ls2 := [(.slice yA0 yn0 yc0, .ints yL0)]) (rd).rd (by simp)) yL0n).mono ?_
  rintro e w3 ⟨bA, bn, bc, rfl, rb, b3⟩
  clear cxc_0 cxc_1 fxc_0 fxc_1 l_xc_0 cxt_0 cxt_1 fxt_0 fxt_1 l_xt_0
  have z3 := b3.size
  try simp only [World.size_alloc, World.size_setCell, size_drew] at z3
  have B3 : Below w.heap.size w w3 := Below.t b3
  have rd_ := rd.below b3
  clear rd; have rd := rd_; clear rd_
  have ra_ := ra.below b3
  clear ra; have ra := ra_; clear ra_
  have xc_ : Box w3 (w1.heap.size) #[.slice cA0 cn0 cc0, .slice cA1 cn1 cc1] 27 := xc.below b3 (by first | omega | (simp [size_drew]; done) | (simp [size_drew]; omega))
  clear xc; have xc := xc_; clear xc_
  have xt_ : Box w3 (w1.heap.size + 1) #[.int .i64 tI0, .int .i64 tI1] 29 := xt.below b3 (by first | omega | (simp [size_drew]; done) | (simp [size_drew]; omega))
  clear xt; have xt := xt_; clear xt_
  try simp only [World.size_alloc, World.size_setCell, size_drew] at rb
  rw [hrg.out]
  rw [run_right hrg.out] at rb
  obtain ⟨cxc_0, cxc_1, fxc_0, fxc_1⟩ := xc.two
  have l_xc_0 : w1.heap.size < w3.heap.size := by omega
  obtain ⟨cxt_0, cxt_1, fxt_0, fxt_1⟩ := xt.two
  have l_xt_0 : w1.heap.size + 1 < w3.heap.size := by omega
  go_wp2_with fail
  refine (iGarble_L (RdL.sub (ls2 := [(.slice cA0 cn0 cc0, .gates cL0), (.slice cA1 cn1 cc1, .ints cL1)]) (rd).rd (by simp)) cL0n cL1n tI0 tI1).mono ?_
  rintro e w4 ⟨pA1, pn1, pc1, pA2, pn2, pc2, rfl, rg, b4⟩
  clear cxc_0 cxc_1 fxc_0 fxc_1 l_xc_0 cxt_0 cxt_1 fxt_0 fxt_1 l_xt_0
  have z4 := b4.size
  try simp only [World.size_alloc, World.size_setCell, size_drew] at z4
  have B4 : Below w.heap.size w w4 := Below.t b4
  have rd_ := rd.below b4
  clear rd; have rd := rd_; clear rd_
  have ra_ := ra.below b4
  clear ra; have ra := ra_; clear ra_
  have rb_ := rb.below b4
  clear rb; have rb := rb_; clear rb_
  have xc_ : Box w4 (w1.heap.size) #[.slice cA0 cn0 cc0, .slice cA1 cn1 cc1] 27 := xc.below b4 (by first | omega | (simp [size_drew]; done) | (simp [size_drew]; omega))
  clear xc; have xc := xc_; clear xc_
  have xt_ : Box w4 (w1.heap.size + 1) #[.int .i64 tI0, .int .i64 tI1] 29 := xt.below b4 (by first | omega | (simp [size_drew]; done) | (simp [size_drew]; omega))
  clear xt; have xt := xt_; clear xt_
  try simp only [World.size_alloc, World.size_setCell, size_drew] at rg
  (try rw [hgar.out])
  obtain ⟨cxc_0, cxc_1, fxc_0, fxc_1⟩ := xc.two
  have l_xc_0 : w1.heap.size < w4.heap.size := by omega
  have l_xc_1 : w1.heap.size < w4.heap.size + 1 := by omega
  go_wp2_with fail
  refine (sameInts_L (ra.alloc _).rd (rb.alloc _).rd (Nat.le_trans (ecL_len _ _ _) cL1n)).mono ?_
  rintro e w5 ⟨rfl, b5⟩
  clear cxc_0 cxc_1 fxc_0 fxc_1 l_xc_0 l_xc_1
  have z5 := b5.size
  try simp only [World.size_alloc, World.size_setCell, size_drew] at z5
  have B5 : Below w.heap.size w w5 := Below.t b5
  have rd_ := (rd.alloc _).below b5
  clear rd; have rd := rd_; clear rd_
  have ra_ := (ra.alloc _).below b5
  clear ra; have ra := ra_; clear ra_
  have rb_ := (rb.alloc _).below b5
  clear rb; have rb := rb_; clear rb_
  have rg_ := (rg.alloc _).below b5
  clear rg; have rg := rg_; clear rg_
  have xc_ : Box w5 (w1.heap.size) #[.slice cA0 cn0 cc0, .slice cA1 cn1 cc1] 27 := (xc.alloc _).below b5 (by first | omega | (simp [size_drew]; done) | (simp [size_drew]; omega))
  clear xc; have xc := xc_; clear xc_
  have xt_ : Box w5 (w1.heap.size + 1) #[.int .i64 tI0, .int .i64 tI1] 29 := (xt.alloc _).below b5 (by first | omega | (simp [size_drew]; done) | (simp [size_drew]; omega))
  clear xt; have xt := xt_; clear xt_
  have xp_ : Box w5 (w4.heap.size) #[.int .i64 (garD cL0 cL1 tI0 tI1), .slice pA1 pn1 pc1, .slice pA2 pn2 pc2] 33 := (Box.new (g := w4.heap.size) _ #[.int .i64 (garD cL0 cL1 tI0 tI1), .slice pA1 pn1 pc1, .slice pA2 pn2 pc2] 33 (by simp)).below b5 (by first | omega | (simp [size_drew]; done) | (simp [size_drew]; omega))
  have xp := xp_; clear xp_
  obtain ⟨cxc_0, cxc_1, fxc_0, fxc_1⟩ := xc.two
  have l_xc_0 : w1.heap.size < w5.heap.size := by omega
  obtain ⟨cxp_0, cxp_1, cxp_2, fxp_0, fxp_1, fxp_2⟩ := xp.three
  have l_xp_0 : w4.heap.size < w5.heap.size := by omega
  go_wp2_with fail
  refine (iGarbledOk_L (RdL.sub (ls2 := [(.slice cA0 cn0 cc0, .gates cL0), (.slice cA1 cn1 cc1, .ints cL1)]) (rd).rd (by simp)) cL0n cL1n (garD cL0 cL1 tI0 tI1) rg.rd hZn hTn).mono ?_
  rintro e w6 ⟨rfl, b6⟩
  clear cxc_0 cxc_1 fxc_0 fxc_1 l_xc_0 cxp_0 cxp_1 cxp_2 fxp_0 fxp_1 fxp_2 l_xp_0
  have z6 := b6.size
  try simp only [World.size_alloc, World.size_setCell, size_drew] at z6
  have B6 : Below w.heap.size w w6 := Below.t b6
  have rd_ := rd.below b6
  clear rd; have rd := rd_; clear rd_
  have ra_ := ra.below b6
  clear ra; have ra := ra_; clear ra_
  have rb_ := rb.below b6
  clear rb; have rb := rb_; clear rb_
  have rg_ := rg.below b6
  clear rg; have rg := rg_; clear rg_
  have xc_ : Box w6 (w1.heap.size) #[.slice cA0 cn0 cc0, .slice cA1 cn1 cc1] 27 := xc.below b6 (by first | omega | (simp [size_drew]; done) | (simp [size_drew]; omega))
  clear xc; have xc := xc_; clear xc_
  have xt_ : Box w6 (w1.heap.size + 1) #[.int .i64 tI0, .int .i64 tI1] 29 := xt.below b6 (by first | omega | (simp [size_drew]; done) | (simp [size_drew]; omega))
  clear xt; have xt := xt_; clear xt_
  have xp_ : Box w6 (w4.heap.size) #[.int .i64 (garD cL0 cL1 tI0 tI1), .slice pA1 pn1 pc1, .slice pA2 pn2 pc2] 33 := xp.below b6 (by first | omega | (simp [size_drew]; done) | (simp [size_drew]; omega))
  clear xp; have xp := xp_; clear xp_
  rw [hgb.out]
  go_wp2
  go_ret
  exact ⟨rfl, by repeat (with_reducible (first | assumption | exact Below.refl _ _ | refine Below.alloc ?_ (by first | omega | (simp; done) | (simp; omega)) _ | refine Below.setCell ?_ (by first | omega | (simp; done) | (simp; omega)) _ | refine Below.drew ?_ | refine below_drewN ?_ _))⟩
end Go.Proofs.Ytodnahpegecpiaa
namespace Go.Proofs.Ytodnahpegecpiaa
set_option linter.unusedSimpArgs false
set_option linter.unusedVariables false
open Go.ChangeShapes Go.WideShapes Go.ChangeAt Go.RowKit
set_option maxRecDepth 100000 in
theorem lifted_FnGarbled (os : Os) (started : os.Started) (H : Type) (enc : TypeId × Value → H) :
    ReturnsInHanded {} Try.checked os 17 .any (Rows.fnGarbledSpec.pre6 enc Try.prog Try.f17 Rows.fnGarbledRow.domain false) (Rows.fnGarbledSpec.post enc Try.prog Try.f17 false true false false) := by
  refine returnsInHanded_of_change (C := Try.checked) ownKnob_none started (by kernel_rfl) Try.func17
    (ChangeSpec.witness6 (enc := enc) (C := Try.checked) false ⟨#[], #[.slice none 0 0], []⟩ 8 (by kernel_rfl) (by kernel_rfl) (by kernel_rfl) (by kernel_rfl)) ?_
  intro W base args ds gs before hval0 hW hcnd _
  have hval : ∀ (j : Nat) t v, Try.f17.params[j]? = some t → args[j]? = some v → Value.okWide Try.prog W .any base t v := hval0
  have hW2 := hW
  obtain ⟨p, q, hA0, hV, rfl, hfz, hnd⟩ := hW
  have hA : DataW.TrodAll enc Try.prog W 0 (fun _ => true) true Try.f17.params.toList args.toList ds p := hA0
  rw [Try.params17] at hA hval
  obtain ⟨v0, vs0, d0, ds0, p0, q0, hargs, rfl, rfl, h0, r0⟩ := trodAll_cons hA
  obtain ⟨rfl, rfl, rfl⟩ := trodAll_nil r0
  obtain rfl : args = #[v0] := by cases args; simp_all
  obtain ⟨rfl, rfl⟩ := trodVars_none hV
  have k0 := h0
  have lt0 : ∀ x ∈ p0, x.block < W.heap.size := by obtain ⟨m, hm⟩ := k0; exact DataW.trod_lt m _ _ _ hm
  obtain ⟨A0, n0, c0, rfl, hx0⟩ := open_Bytes (hval 0 22 v0 rfl rfl) h0
  clear hA0 hval0
  refine (walk_FnGarbled A0 n0 c0 W hx0).mono fun e W2 ⟨he, bel⟩ => ?_
  subst he
  exact ⟨_, rfl, _, _, _, [], _, [], hW2, trodAll_mk1 (shut_bool Try.underlying4 _), (trodAll_cons_mk (Below.trod laidOut_yes (by kernel_rfl) (of_decide_eq_true (by kernel_rfl)) k0 bel lt0) trodAll_mk0), rfl, bel.frame _, fun h => by cases h⟩
theorem facts_FnGarbled : joinedFacts Try.prog 17 Try.f17 Rows.fnGarbledSpec Rows.fnGarbledRow = true := by
  unfold joinedFacts
  rw [mayEnter_yes, liftsFinal_no, make_cut]
  kernel_rfl
theorem wrap_FnGarbled : Try.f17.isWrapper Try.prog Rows.fnGarbledRow.wrapper Rows.fnGarbledRow.mainSum := by
  unfold Func.isWrapper
  rw [if_neg (of_decide_eq_false (by kernel_rfl))]
  exact ⟨rfl, rfl⟩
theorem inst_FnGarbled : Try.f17.isInstance Try.prog Rows.fnGarbledRow.origin Rows.fnGarbledRow.targs := of_decide_eq_true (by kernel_rfl)
theorem named_FnGarbled : Try.prog.funcNamed Rows.fnGarbledRow.func = some 17 := by kernel_rfl
theorem FnGarbled_holds : Rows.FnGarbledSaid :=
  OpenClaim.holds_of_wide 17 Try.f17 rfl rfl rfl rfl rfl rfl rfl ⟨rfl, rfl, rfl, rfl, rfl⟩ rfl rfl rfl rfl rfl named_FnGarbled Try.func17 facts_FnGarbled
    inst_FnGarbled wrap_FnGarbled
    (fun os started H enc _ => lifted_FnGarbled os started H enc)
#print axioms FnGarbled_holds
end Go.Proofs.Ytodnahpegecpiaa

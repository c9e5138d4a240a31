/- Contracts of the statements' helpers over structs: to, eq, mark, held. Printed by kinds.py. -/
import Derived.Test.YtodnahpegecpiaaGates2
namespace Go.Proofs.Ytodnahpegecpiaa
set_option linter.unusedSimpArgs false
set_option linter.unusedVariables false
open Go.RowKit
set_option maxRecDepth 100000 in
set_option maxHeartbeats 1000000 in
theorem toTape_L {w : World} (aI0 : Int) (aI1 : Int) :
    Calls Try.prog 54 #[.agg #[.int .i64 aI0, .int .i64 aI1]] w fun e w' => e = .returned (.agg #[.int .i64 aI0, .int .i64 aI1]) ∧ Below w.heap.size w w' := by
  go_enter Try.func54, Try.ntmps54
  go_wp2
  refine bodyPost_ret (v := .agg #[.int .i64 aI0, .int .i64 aI1]) (by simp [results, Try.results54, go_sem]) rfl ⟨rfl, ?_⟩
  repeat (first | exact Below.refl _ _ | refine Below.alloc ?_ (by first | omega | (simp; done) | (simp; omega)) _ | refine Below.setCell ?_ (by first | omega | (simp; done) | (simp; omega)) _ | refine Below.drew ?_ | refine below_drewN ?_ _ | refine Below.trans ?_ (hb30.mono (by first | omega | (simp; done) | (simp; omega))) | refine Below.trans ?_ (hb29.mono (by first | omega | (simp; done) | (simp; omega))) | refine Below.trans ?_ (hb28.mono (by first | omega | (simp; done) | (simp; omega))) | refine Below.trans ?_ (hb27.mono (by first | omega | (simp; done) | (simp; omega))) | refine Below.trans ?_ (hb26.mono (by first | omega | (simp; done) | (simp; omega))) | refine Below.trans ?_ (hb25.mono (by first | omega | (simp; done) | (simp; omega))) | refine Below.trans ?_ (hb24.mono (by first | omega | (simp; done) | (simp; omega))) | refine Below.trans ?_ (hb23.mono (by first | omega | (simp; done) | (simp; omega))) | refine Below.trans ?_ (hb22.mono (by first | omega | (simp; done) | (simp; omega))) | refine Below.trans ?_ (hb21.mono (by first | omega | (simp; done) | (simp; omega))) | refine Below.trans ?_ (hb20.mono (by first | omega | (simp; done) | (simp; omega))) | refine Below.trans ?_ (hb19.mono (by first | omega | (simp; done) | (simp; omega))) | refine Below.trans ?_ (hb18.mono (by first | omega | (simp; done) | (simp; omega))) | refine Below.trans ?_ (hb17.mono (by first | omega | (simp; done) | (simp; omega))) | refine Below.trans ?_ (hb16.mono (by first | omega | (simp; done) | (simp; omega))) | refine Below.trans ?_ (hb15.mono (by first | omega | (simp; done) | (simp; omega))) | refine Below.trans ?_ (hb14.mono (by first | omega | (simp; done) | (simp; omega))) | refine Below.trans ?_ (hb13.mono (by first | omega | (simp; done) | (simp; omega))) | refine Below.trans ?_ (hb12.mono (by first | omega | (simp; done) | (simp; omega))) | refine Below.trans ?_ (hb11.mono (by first | omega | (simp; done) | (simp; omega))) | refine Below.trans ?_ (hb10.mono (by first | omega | (simp; done) | (simp; omega))) | refine Below.trans ?_ (hb9.mono (by first | omega | (simp; done) | (simp; omega))) | refine Below.trans ?_ (hb8.mono (by first | omega | (simp; done) | (simp; omega))) | refine Below.trans ?_ (hb7.mono (by first | omega | (simp; done) | (simp; omega))) | refine Below.trans ?_ (hb6.mono (by first | omega | (simp; done) | (simp; omega))) | refine Below.trans ?_ (hb5.mono (by first | omega | (simp; done) | (simp; omega))) | refine Below.trans ?_ (hb4.mono (by first | omega | (simp; done) | (simp; omega))) | refine Below.trans ?_ (hb3.mono (by first | omega | (simp; done) | (simp; omega))) | refine Below.trans ?_ (hb2.mono (by first | omega | (simp; done) | (simp; omega))) | refine Below.trans ?_ (hb1.mono (by first | omega | (simp; done) | (simp; omega))))
set_option maxRecDepth 100000 in
set_option maxHeartbeats 1000000 in
theorem toGarbled_L {aA1 : Option Addr} {an1 ac1 : Nat} {aL1 : List Int} {aA2 : Option Addr} {an2 ac2 : Nat} {aL2 : List Int} {w : World} (aI0 : Int) (h : RdL w [((.slice aA1 an1 ac1), .ints aL1), ((.slice aA2 an2 ac2), .ints aL2)]) (aL1n : aL1.length ≤ 1048576) (aL2n : aL2.length ≤ 1048576) :
    Calls Try.prog 59 #[.agg #[.int .i64 aI0, (.slice aA1 an1 ac1), (.slice aA2 an2 ac2)]] w fun e w' => ∃ cA1 cn1 cc1 cA2 cn2 cc2, e = .returned (.agg #[.int .i64 aI0, (.slice cA1 cn1 cc1), (.slice cA2 cn2 cc2)]) ∧ OwnL w' w.heap.size w'.heap.size [((.slice cA1 cn1 cc1), .ints aL1), ((.slice cA2 cn2 cc2), .ints aL2)] ∧ Below w.heap.size w w' := by
  go_enter Try.func59, Try.ntmps59
  go_wp2_with fail
  refine (toIntS_L (RdL.b (ls := [((.slice aA1 an1 ac1), .ints aL1)]) (RdL.sub h (by simp))) aL1n).mono ?_
  rintro e w1 ⟨cA1, cn1, cc1, rfl, r1, b1⟩
  have z1 := b1.size
  try simp only [World.size_alloc, World.size_setCell, size_drew] at z1
  have B1 : Below w.heap.size w w1 := Below.t b1
  have xa_ : Box w1 (w.heap.size) #[.int .i64 aI0, (.slice aA1 an1 ac1), (.slice aA2 an2 ac2)] 75 := (((Box.new (g := w.heap.size) _ #[.int .i64 aI0, (.slice aA1 an1 ac1), (.slice aA2 an2 ac2)] 75 (by simp)).alloc _).alloc _).below b1 (by first | omega | (simp [size_drew]; done) | (simp [size_drew]; omega))
  have xa := xa_; clear xa_
  have xr_ : Box w1 (w.heap.size + 1) #[.int .i64 0, .slice none 0 0, .slice none 0 0] 33 := ((Box.new (g := w.heap.size + 1) _ #[.int .i64 0, .slice none 0 0, .slice none 0 0] 33 (by simp)).alloc _).below b1 (by first | omega | (simp [size_drew]; done) | (simp [size_drew]; omega))
  have xr := xr_; clear xr_
  have xo_ : Box w1 (w.heap.size + 1 + 1) #[.int .i64 aI0, .slice none 0 0, .slice none 0 0] 33 := (Box.new (g := w.heap.size + 1 + 1) _ #[.int .i64 aI0, .slice none 0 0, .slice none 0 0] 33 (by simp)).below b1 (by first | omega | (simp [size_drew]; done) | (simp [size_drew]; omega))
  have xo := xo_; clear xo_
  try simp only [World.size_alloc, World.size_setCell, size_drew] at r1
  obtain ⟨cxo_0, cxo_1, cxo_2, fxo_0, fxo_1, fxo_2⟩ := xo.three
  have l_xo_0 : w.heap.size + 1 + 1 < w1.heap.size := by omega
  obtain ⟨cxa_0, cxa_1, cxa_2, fxa_0, fxa_1, fxa_2⟩ := xa.three
  have l_xa_0 : w.heap.size < w1.heap.size := by omega
  go_wp2_with fail
  refine (toIntS_L (RdL.b (ls := [((.slice aA2 an2 ac2), .ints aL2)]) (RdL.sub h (by simp))) aL2n).mono ?_
  rintro e w2 ⟨cA2, cn2, cc2, rfl, r2, b2⟩
  clear cxo_0 cxo_1 cxo_2 fxo_0 fxo_1 fxo_2 l_xo_0 cxa_0 cxa_1 cxa_2 fxa_0 fxa_1 fxa_2 l_xa_0
  have z2 := b2.size
  try simp only [World.size_alloc, World.size_setCell, size_drew] at z2
  have B2 : Below w.heap.size w w2 := Below.t b2
  have r1_ := (r1.setBox (by omega)).below b2
  clear r1; have r1 := r1_; clear r1_
  have xa_ : Box w2 (w.heap.size) #[.int .i64 aI0, (.slice aA1 an1 ac1), (.slice aA2 an2 ac2)] 75 := (xa.far (by omega)).below b2 (by first | omega | (simp [size_drew]; done) | (simp [size_drew]; omega))
  clear xa; have xa := xa_; clear xa_
  have xr_ : Box w2 (w.heap.size + 1) #[.int .i64 0, .slice none 0 0, .slice none 0 0] 33 := (xr.far (by omega)).below b2 (by first | omega | (simp [size_drew]; done) | (simp [size_drew]; omega))
  clear xr; have xr := xr_; clear xr_
  have xo_ : Box w2 (w.heap.size + 1 + 1) #[.int .i64 aI0, (.slice cA1 cn1 cc1), .slice none 0 0] 33 := (xo.setAt (i := 1) (v := (.slice cA1 cn1 cc1)) (ds := #[.int .i64 aI0, (.slice cA1 cn1 cc1), .slice none 0 0]) (by simp)).below b2 (by first | omega | (simp [size_drew]; done) | (simp [size_drew]; omega))
  clear xo; have xo := xo_; clear xo_
  try simp only [World.size_alloc, World.size_setCell, size_drew] at r2
  obtain ⟨cxo_0, cxo_1, cxo_2, fxo_0, fxo_1, fxo_2⟩ := xo.three
  have l_xo_0 : w.heap.size + 1 + 1 < w2.heap.size := by omega
  obtain ⟨cxa_0, cxa_1, cxa_2, fxa_0, fxa_1, fxa_2⟩ := xa.three
  have l_xa_0 : w.heap.size < w2.heap.size := by omega
  obtain ⟨cxr_0, cxr_1, cxr_2, fxr_0, fxr_1, fxr_2⟩ := xr.three
  have l_xr_0 : w.heap.size + 1 < w2.heap.size := by omega
  go_wp2
  refine bodyPost_ret (v := .agg #[.int .i64 aI0, (.slice cA1 cn1 cc1), (.slice cA2 cn2 cc2)]) ?_ rfl ⟨cA1, cn1, cc1, cA2, cn2, cc2, rfl, ?_, ?_⟩
  · simp [results, Try.results59, go_sem, cxo_0, cxo_1, cxo_2, fxo_0, fxo_1, fxo_2, l_xo_0, cxa_0, cxa_1, cxa_2, fxa_0, fxa_1, fxa_2, l_xa_0, cxr_0, cxr_1, cxr_2, fxr_0, fxr_1, fxr_2, l_xr_0]
  · have R := (OwnL.then r1 r2 (by omega))
    simp only [List.cons_append, List.nil_append] at R
    refine OwnL.widen (lo := w.heap.size + 1 + 1 + 1) (hi := w2.heap.size) ?_ (by omega)
    repeat (with_reducible (first | exact R | refine OwnL.alloc ?_ _ | refine OwnL.setBox ?_ ?_ | refine OwnL.drew ?_))
    all_goals omega
  · repeat (with_reducible (first | assumption | exact Below.refl _ _ | refine Below.alloc ?_ (by first | omega | (simp; done) | (simp; omega)) _ | refine Below.setCell ?_ (by first | omega | (simp; done) | (simp; omega)) _ | refine Below.drew ?_ | refine below_drewN ?_ _))
set_option maxRecDepth 100000 in
set_option maxHeartbeats 1000000 in
theorem eqGarbled_L {aA1 : Option Addr} {an1 ac1 : Nat} {aL1 : List Int} {aA2 : Option Addr} {an2 ac2 : Nat} {aL2 : List Int} {cA1 : Option Addr} {cn1 cc1 : Nat} {cA2 : Option Addr} {cn2 cc2 : Nat} {w : World} (aI0 : Int) (h : RdL w [((.slice aA1 an1 ac1), .ints aL1), ((.slice aA2 an2 ac2), .ints aL2)]) (h2 : RdL w [((.slice cA1 cn1 cc1), .ints aL1), ((.slice cA2 cn2 cc2), .ints aL2)]) (aL1n : aL1.length ≤ 1048576) (aL2n : aL2.length ≤ 1048576) :
    Calls Try.prog 61 #[.agg #[.int .i64 aI0, (.slice aA1 an1 ac1), (.slice aA2 an2 ac2)], .agg #[.int .i64 aI0, (.slice cA1 cn1 cc1), (.slice cA2 cn2 cc2)]] w fun e w' => e = .returned (.bool true) ∧ Below w.heap.size w w' := by
  go_enter Try.func61, Try.ntmps61
  go_wp2_with fail
  refine (eqIntS_L (RdL.b (ls := [((.slice aA1 an1 ac1), .ints aL1)]) (RdL.sub h (by simp))) (RdL.b (ls := [((.slice cA1 cn1 cc1), .ints aL1)]) (RdL.sub h2 (by simp))) aL1n).mono ?_
  rintro e w1 ⟨rfl, b1⟩
  have z1 := b1.size
  try simp only [World.size_alloc, World.size_setCell, size_drew] at z1
  have B1 : Below w.heap.size w w1 := Below.t b1
  have xa_ : Box w1 (w.heap.size) #[.int .i64 aI0, (.slice aA1 an1 ac1), (.slice aA2 an2 ac2)] 33 := ((Box.new (g := w.heap.size) _ #[.int .i64 aI0, (.slice aA1 an1 ac1), (.slice aA2 an2 ac2)] 33 (by simp)).alloc _).below b1 (by first | omega | (simp [size_drew]; done) | (simp [size_drew]; omega))
  have xa := xa_; clear xa_
  have xc_ : Box w1 (w.heap.size + 1) #[.int .i64 aI0, (.slice cA1 cn1 cc1), (.slice cA2 cn2 cc2)] 33 := (Box.new (g := w.heap.size + 1) _ #[.int .i64 aI0, (.slice cA1 cn1 cc1), (.slice cA2 cn2 cc2)] 33 (by simp)).below b1 (by first | omega | (simp [size_drew]; done) | (simp [size_drew]; omega))
  have xc := xc_; clear xc_
  obtain ⟨cxa_0, cxa_1, cxa_2, fxa_0, fxa_1, fxa_2⟩ := xa.three
  have l_xa_0 : w.heap.size < w1.heap.size := by omega
  obtain ⟨cxc_0, cxc_1, cxc_2, fxc_0, fxc_1, fxc_2⟩ := xc.three
  have l_xc_0 : w.heap.size + 1 < w1.heap.size := by omega
  go_wp2_with fail
  refine (eqIntS_L (RdL.b (ls := [((.slice aA2 an2 ac2), .ints aL2)]) (RdL.sub h (by simp))) (RdL.b (ls := [((.slice cA2 cn2 cc2), .ints aL2)]) (RdL.sub h2 (by simp))) aL2n).mono ?_
  rintro e w2 ⟨rfl, b2⟩
  clear cxa_0 cxa_1 cxa_2 fxa_0 fxa_1 fxa_2 l_xa_0 cxc_0 cxc_1 cxc_2 fxc_0 fxc_1 fxc_2 l_xc_0
  have z2 := b2.size
  try simp only [World.size_alloc, World.size_setCell, size_drew] at z2
  have B2 : Below w.heap.size w w2 := Below.t b2
  have xa_ : Box w2 (w.heap.size) #[.int .i64 aI0, (.slice aA1 an1 ac1), (.slice aA2 an2 ac2)] 33 := xa.below b2 (by first | omega | (simp [size_drew]; done) | (simp [size_drew]; omega))
  clear xa; have xa := xa_; clear xa_
  have xc_ : Box w2 (w.heap.size + 1) #[.int .i64 aI0, (.slice cA1 cn1 cc1), (.slice cA2 cn2 cc2)] 33 := xc.below b2 (by first | omega | (simp [size_drew]; done) | (simp [size_drew]; omega))
  clear xc; have xc := xc_; clear xc_
  obtain ⟨cxa_0, cxa_1, cxa_2, fxa_0, fxa_1, fxa_2⟩ := xa.three
  have l_xa_0 : w.heap.size < w2.heap.size := by omega
  obtain ⟨cxc_0, cxc_1, cxc_2, fxc_0, fxc_1, fxc_2⟩ := xc.three
  have l_xc_0 : w.heap.size + 1 < w2.heap.size := by omega
  go_wp2
  go_ret
  refine ⟨rfl, ?_⟩
  repeat (with_reducible (first | assumption | exact Below.refl _ _ | refine Below.alloc ?_ (by first | omega | (simp; done) | (simp; omega)) _ | refine Below.setCell ?_ (by first | omega | (simp; done) | (simp; omega)) _ | refine Below.drew ?_ | refine below_drewN ?_ _))
set_option maxRecDepth 100000 in
set_option maxHeartbeats 1000000 in
theorem toPublic_L {aA0 : Option Addr} {an0 ac0 : Nat} {aL0 : List Int} {aA1 : Option Addr} {an1 ac1 : Nat} {aL1 : List Int} {aA2 : Option Addr} {an2 ac2 : Nat} {aL2 : List Int} {w : World} (h : RdL w [((.slice aA0 an0 ac0), .ints aL0), ((.slice aA1 an1 ac1), .ints aL1), ((.slice aA2 an2 ac2), .ints aL2)]) (aL0n : aL0.length ≤ 1048576) (aL1n : aL1.length ≤ 1048576) (aL2n : aL2.length ≤ 1048576) :
    Calls Try.prog 64 #[.agg #[(.slice aA0 an0 ac0), (.slice aA1 an1 ac1), (.slice aA2 an2 ac2)]] w fun e w' => ∃ cA0 cn0 cc0 cA1 cn1 cc1 cA2 cn2 cc2, e = .returned (.agg #[(.slice cA0 cn0 cc0), (.slice cA1 cn1 cc1), (.slice cA2 cn2 cc2)]) ∧ OwnL w' w.heap.size w'.heap.size [((.slice cA0 cn0 cc0), .ints aL0), ((.slice cA1 cn1 cc1), .ints aL1), ((.slice cA2 cn2 cc2), .ints aL2)] ∧ Below w.heap.size w w' := by
  go_enter Try.func64, Try.ntmps64
  go_wp2_with fail
  refine (toIntS_L (RdL.b (ls := [((.slice aA0 an0 ac0), .ints aL0)]) (RdL.sub h (by simp))) aL0n).mono ?_
  rintro e w1 ⟨cA0, cn0, cc0, rfl, r0, b1⟩
  have z1 := b1.size
  try simp only [World.size_alloc, World.size_setCell, size_drew] at z1
  have B1 : Below w.heap.size w w1 := Below.t b1
  have xa_ : Box w1 (w.heap.size) #[(.slice aA0 an0 ac0), (.slice aA1 an1 ac1), (.slice aA2 an2 ac2)] 81 := (((Box.new (g := w.heap.size) _ #[(.slice aA0 an0 ac0), (.slice aA1 an1 ac1), (.slice aA2 an2 ac2)] 81 (by simp)).alloc _).alloc _).below b1 (by first | omega | (simp [size_drew]; done) | (simp [size_drew]; omega))
  have xa := xa_; clear xa_
  have xr_ : Box w1 (w.heap.size + 1) #[.slice none 0 0, .slice none 0 0, .slice none 0 0] 37 := ((Box.new (g := w.heap.size + 1) _ #[.slice none 0 0, .slice none 0 0, .slice none 0 0] 37 (by simp)).alloc _).below b1 (by first | omega | (simp [size_drew]; done) | (simp [size_drew]; omega))
  have xr := xr_; clear xr_
  have xo_ : Box w1 (w.heap.size + 1 + 1) #[.slice none 0 0, .slice none 0 0, .slice none 0 0] 37 := (Box.new (g := w.heap.size + 1 + 1) _ #[.slice none 0 0, .slice none 0 0, .slice none 0 0] 37 (by simp)).below b1 (by first | omega | (simp [size_drew]; done) | (simp [size_drew]; omega))
  have xo := xo_; clear xo_
  try simp only [World.size_alloc, World.size_setCell, size_drew] at r0
  obtain ⟨cxo_0, cxo_1, cxo_2, fxo_0, fxo_1, fxo_2⟩ := xo.three
  have l_xo_0 : w.heap.size + 1 + 1 < w1.heap.size := by omega
  obtain ⟨cxa_0, cxa_1, cxa_2, fxa_0, fxa_1, fxa_2⟩ := xa.three
  have l_xa_0 : w.heap.size < w1.heap.size := by omega
  go_wp2_with fail
  refine (toIntS_L (RdL.b (ls := [((.slice aA1 an1 ac1), .ints aL1)]) (RdL.sub h (by simp))) aL1n).mono ?_
  rintro e w2 ⟨cA1, cn1, cc1, rfl, r1, b2⟩
  clear cxo_0 cxo_1 cxo_2 fxo_0 fxo_1 fxo_2 l_xo_0 cxa_0 cxa_1 cxa_2 fxa_0 fxa_1 fxa_2 l_xa_0
  have z2 := b2.size
  try simp only [World.size_alloc, World.size_setCell, size_drew] at z2
  have B2 : Below w.heap.size w w2 := Below.t b2
  have r0_ := (r0.setBox (by omega)).below b2
  clear r0; have r0 := r0_; clear r0_
  have xa_ : Box w2 (w.heap.size) #[(.slice aA0 an0 ac0), (.slice aA1 an1 ac1), (.slice aA2 an2 ac2)] 81 := (xa.far (by omega)).below b2 (by first | omega | (simp [size_drew]; done) | (simp [size_drew]; omega))
  clear xa; have xa := xa_; clear xa_
  have xr_ : Box w2 (w.heap.size + 1) #[.slice none 0 0, .slice none 0 0, .slice none 0 0] 37 := (xr.far (by omega)).below b2 (by first | omega | (simp [size_drew]; done) | (simp [size_drew]; omega))
  clear xr; have xr := xr_; clear xr_
  have xo_ : Box w2 (w.heap.size + 1 + 1) #[(.slice cA0 cn0 cc0), .slice none 0 0, .slice none 0 0] 37 := (xo.setAt (i := 0) (v := (.slice cA0 cn0 cc0)) (ds := #[(.slice cA0 cn0 cc0), .slice none 0 0, .slice none 0 0]) (by simp)).below b2 (by first | omega | (simp [size_drew]; done) | (simp [size_drew]; omega))
  clear xo; have xo := xo_; clear xo_
  try simp only [World.size_alloc, World.size_setCell, size_drew] at r1
  obtain ⟨cxo_0, cxo_1, cxo_2, fxo_0, fxo_1, fxo_2⟩ := xo.three
  have l_xo_0 : w.heap.size + 1 + 1 < w2.heap.size := by omega
  obtain ⟨cxa_0, cxa_1, cxa_2, fxa_0, fxa_1, fxa_2⟩ := xa.three
  have l_xa_0 : w.heap.size < w2.heap.size := by omega
  go_wp2_with fail
  refine (toIntS_L (RdL.b (ls := [((.slice aA2 an2 ac2), .ints aL2)]) (RdL.sub h (by simp))) aL2n).mono ?_
  rintro e w3 ⟨cA2, cn2, cc2, rfl, r2, b3⟩
  clear cxo_0 cxo_1 cxo_2 fxo_0 fxo_1 fxo_2 l_xo_0 cxa_0 cxa_1 cxa_2 fxa_0 fxa_1 fxa_2 l_xa_0
  have z3 := b3.size
  try simp only [World.size_alloc, World.size_setCell, size_drew] at z3
  have B3 : Below w.heap.size w w3 := Below.t b3
  have r0_ := (r0.setBox (by omega)).below b3
  clear r0; have r0 := r0_; clear r0_
  have r1_ := (r1.setBox (by omega)).below b3
  clear r1; have r1 := r1_; clear r1_
  have xa_ : Box w3 (w.heap.size) #[(.slice aA0 an0 ac0), (.slice aA1 an1 ac1), (.slice aA2 an2 ac2)] 81 := (xa.far (by omega)).below b3 (by first | omega | (simp [size_drew]; done) | (simp [size_drew]; omega))
  clear xa; have xa := xa_; clear xa_
  have xr_ : Box w3 (w.heap.size + 1) #[.slice none 0 0, .slice none 0 0, .slice none 0 0] 37 := (xr.far (by omega)).below b3 (by first | omega | (simp [size_drew]; done) | (simp [size_drew]; omega))
  clear xr; have xr := xr_; clear xr_
  have xo_ : Box w3 (w.heap.size + 1 + 1) #[(.slice cA0 cn0 cc0), (.slice cA1 cn1 cc1), .slice none 0 0] 37 := (xo.setAt (i := 1) (v := (.slice cA1 cn1 cc1)) (ds := #[(.slice cA0 cn0 cc0), (.slice cA1 cn1 cc1), .slice none 0 0]) (by simp)).below b3 (by first | omega | (simp [size_drew]; done) | (simp [size_drew]; omega))
  clear xo; have xo := xo_; clear xo_
  try simp only [World.size_alloc, World.size_setCell, size_drew] at r2
  obtain ⟨cxo_0, cxo_1, cxo_2, fxo_0, fxo_1, fxo_2⟩ := xo.three
  have l_xo_0 : w.heap.size + 1 + 1 < w3.heap.size := by omega
  obtain ⟨cxa_0, cxa_1, cxa_2, fxa_0, fxa_1, fxa_2⟩ := xa.three
  have l_xa_0 : w.heap.size < w3.heap.size := by omega
  obtain ⟨cxr_0, cxr_1, cxr_2, fxr_0, fxr_1, fxr_2⟩ := xr.three
  have l_xr_0 : w.heap.size + 1 < w3.heap.size := by omega
  go_wp2
  refine bodyPost_ret (v := .agg #[(.slice cA0 cn0 cc0), (.slice cA1 cn1 cc1), (.slice cA2 cn2 cc2)]) ?_ rfl ⟨cA0, cn0, cc0, cA1, cn1, cc1, cA2, cn2, cc2, rfl, ?_, ?_⟩
  · simp [results, Try.results64, go_sem, cxo_0, cxo_1, cxo_2, fxo_0, fxo_1, fxo_2, l_xo_0, cxa_0, cxa_1, cxa_2, fxa_0, fxa_1, fxa_2, l_xa_0, cxr_0, cxr_1, cxr_2, fxr_0, fxr_1, fxr_2, l_xr_0]
  · have R := (OwnL.then (OwnL.then r0 r1 (by omega)) r2 (by omega))
    simp only [List.cons_append, List.nil_append] at R
    refine OwnL.widen (lo := w.heap.size + 1 + 1 + 1) (hi := w3.heap.size) ?_ (by omega)
    repeat (with_reducible (first | exact R | refine OwnL.alloc ?_ _ | refine OwnL.setBox ?_ ?_ | refine OwnL.drew ?_))
    all_goals omega
  · repeat (with_reducible (first | assumption | exact Below.refl _ _ | refine Below.alloc ?_ (by first | omega | (simp; done) | (simp; omega)) _ | refine Below.setCell ?_ (by first | omega | (simp; done) | (simp; omega)) _ | refine Below.drew ?_ | refine below_drewN ?_ _))
set_option maxRecDepth 100000 in
set_option maxHeartbeats 1000000 in
theorem eqPublic_L {aA0 : Option Addr} {an0 ac0 : Nat} {aL0 : List Int} {aA1 : Option Addr} {an1 ac1 : Nat} {aL1 : List Int} {aA2 : Option Addr} {an2 ac2 : Nat} {aL2 : List Int} {cA0 : Option Addr} {cn0 cc0 : Nat} {cA1 : Option Addr} {cn1 cc1 : Nat} {cA2 : Option Addr} {cn2 cc2 : Nat} {w : World} (h : RdL w [((.slice aA0 an0 ac0), .ints aL0), ((.slice aA1 an1 ac1), .ints aL1), ((.slice aA2 an2 ac2), .ints aL2)]) (h2 : RdL w [((.slice cA0 cn0 cc0), .ints aL0), ((.slice cA1 cn1 cc1), .ints aL1), ((.slice cA2 cn2 cc2), .ints aL2)]) (aL0n : aL0.length ≤ 1048576) (aL1n : aL1.length ≤ 1048576) (aL2n : aL2.length ≤ 1048576) :
    Calls Try.prog 65 #[.agg #[(.slice aA0 an0 ac0), (.slice aA1 an1 ac1), (.slice aA2 an2 ac2)], .agg #[(.slice cA0 cn0 cc0), (.slice cA1 cn1 cc1), (.slice cA2 cn2 cc2)]] w fun e w' => e = .returned (.bool true) ∧ Below w.heap.size w w' := by
  go_enter Try.func65, Try.ntmps65
  go_wp2_with fail
  refine (eqIntS_L (RdL.b (ls := [((.slice aA0 an0 ac0), .ints aL0)]) (RdL.sub h (by simp))) (RdL.b (ls := [((.slice cA0 cn0 cc0), .ints aL0)]) (RdL.sub h2 (by simp))) aL0n).mono ?_
  rintro e w1 ⟨rfl, b1⟩
  have z1 := b1.size
  try simp only [World.size_alloc, World.size_setCell, size_drew] at z1
  have B1 : Below w.heap.size w w1 := Below.t b1
  have xa_ : Box w1 (w.heap.size) #[(.slice aA0 an0 ac0), (.slice aA1 an1 ac1), (.slice aA2 an2 ac2)] 37 := ((Box.new (g := w.heap.size) _ #[(.slice aA0 an0 ac0), (.slice aA1 an1 ac1), (.slice aA2 an2 ac2)] 37 (by simp)).alloc _).below b1 (by first | omega | (simp [size_drew]; done) | (simp [size_drew]; omega))
  have xa := xa_; clear xa_
  have xc_ : Box w1 (w.heap.size + 1) #[(.slice cA0 cn0 cc0), (.slice cA1 cn1 cc1), (.slice cA2 cn2 cc2)] 37 := (Box.new (g := w.heap.size + 1) _ #[(.slice cA0 cn0 cc0), (.slice cA1 cn1 cc1), (.slice cA2 cn2 cc2)] 37 (by simp)).below b1 (by first | omega | (simp [size_drew]; done) | (simp [size_drew]; omega))
  have xc := xc_; clear xc_
  obtain ⟨cxa_0, cxa_1, cxa_2, fxa_0, fxa_1, fxa_2⟩ := xa.three
  have l_xa_0 : w.heap.size < w1.heap.size := by omega
  obtain ⟨cxc_0, cxc_1, cxc_2, fxc_0, fxc_1, fxc_2⟩ := xc.three
  have l_xc_0 : w.heap.size + 1 < w1.heap.size := by omega
  go_wp2_with fail
  refine (eqIntS_L (RdL.b (ls := [((.slice aA1 an1 ac1), .ints aL1)]) (RdL.sub h (by simp))) (RdL.b (ls := [((.slice cA1 cn1 cc1), .ints aL1)]) (RdL.sub h2 (by simp))) aL1n).mono ?_
  rintro e w2 ⟨rfl, b2⟩
  clear cxa_0 cxa_1 cxa_2 fxa_0 fxa_1 fxa_2 l_xa_0 cxc_0 cxc_1 cxc_2 fxc_0 fxc_1 fxc_2 l_xc_0
  have z2 := b2.size
  try simp only [World.size_alloc, World.size_setCell, size_drew] at z2
  have B2 : Below w.heap.size w w2 := Below.t b2
  have xa_ : Box w2 (w.heap.size) #[(.slice aA0 an0 ac0), (.slice aA1 an1 ac1), (.slice aA2 an2 ac2)] 37 := xa.below b2 (by first | omega | (simp [size_drew]; done) | (simp [size_drew]; omega))
  clear xa; have xa := xa_; clear xa_
  have xc_ : Box w2 (w.heap.size + 1) #[(.slice cA0 cn0 cc0), (.slice cA1 cn1 cc1), (.slice cA2 cn2 cc2)] 37 := xc.below b2 (by first | omega | (simp [size_drew]; done) | (simp [size_drew]; omega))
  clear xc; have xc := xc_; clear xc_
  obtain ⟨cxa_0, cxa_1, cxa_2, fxa_0, fxa_1, fxa_2⟩ := xa.three
  have l_xa_0 : w.heap.size < w2.heap.size := by omega
  obtain ⟨cxc_0, cxc_1, cxc_2, fxc_0, fxc_1, fxc_2⟩ := xc.three
  have l_xc_0 : w.heap.size + 1 < w2.heap.size := by omega
  go_wp2_with fail
  refine (eqIntS_L (RdL.b (ls := [((.slice aA2 an2 ac2), .ints aL2)]) (RdL.sub h (by simp))) (RdL.b (ls := [((.slice cA2 cn2 cc2), .ints aL2)]) (RdL.sub h2 (by simp))) aL2n).mono ?_
  rintro e w3 ⟨rfl, b3⟩
  clear cxa_0 cxa_1 cxa_2 fxa_0 fxa_1 fxa_2 l_xa_0 cxc_0 cxc_1 cxc_2 fxc_0 fxc_1 fxc_2 l_xc_0
  have z3 := b3.size
  try simp only [World.size_alloc, World.size_setCell, size_drew] at z3
  have B3 : Below w.heap.size w w3 := Below.t b3
  have xa_ : Box w3 (w.heap.size) #[(.slice aA0 an0 ac0), (.slice aA1 an1 ac1), (.slice aA2 an2 ac2)] 37 := xa.below b3 (by first | omega | (simp [size_drew]; done) | (simp [size_drew]; omega))
  clear xa; have xa := xa_; clear xa_
  have xc_ : Box w3 (w.heap.size + 1) #[(.slice cA0 cn0 cc0), (.slice cA1 cn1 cc1), (.slice cA2 cn2 cc2)] 37 := xc.below b3 (by first | omega | (simp [size_drew]; done) | (simp [size_drew]; omega))
  clear xc; have xc := xc_; clear xc_
  obtain ⟨cxa_0, cxa_1, cxa_2, fxa_0, fxa_1, fxa_2⟩ := xa.three
  have l_xa_0 : w.heap.size < w3.heap.size := by omega
  obtain ⟨cxc_0, cxc_1, cxc_2, fxc_0, fxc_1, fxc_2⟩ := xc.three
  have l_xc_0 : w.heap.size + 1 < w3.heap.size := by omega
  go_wp2
  go_ret
  refine ⟨rfl, ?_⟩
  repeat (with_reducible (first | assumption | exact Below.refl _ _ | refine Below.alloc ?_ (by first | omega | (simp; done) | (simp; omega)) _ | refine Below.setCell ?_ (by first | omega | (simp; done) | (simp; omega)) _ | refine Below.drew ?_ | refine below_drewN ?_ _))
set_option maxRecDepth 100000 in
set_option maxHeartbeats 1000000 in
theorem toCircuit_L {aA0 : Option Addr} {an0 ac0 : Nat} {aL0 : List (Int × Int × Int)} {aA1 : Option Addr} {an1 ac1 : Nat} {aL1 : List Int} {w : World} (h : RdL w [((.slice aA0 an0 ac0), .gates aL0), ((.slice aA1 an1 ac1), .ints aL1)]) (aL0n : aL0.length ≤ 1048576) (aL1n : aL1.length ≤ 1048576) :
    Calls Try.prog 49 #[.agg #[(.slice aA0 an0 ac0), (.slice aA1 an1 ac1)]] w fun e w' => ∃ cA0 cn0 cc0 cA1 cn1 cc1, e = .returned (.agg #[(.slice cA0 cn0 cc0), (.slice cA1 cn1 cc1)]) ∧ OwnL w' w.heap.size w'.heap.size [((.slice cA0 cn0 cc0), .gates aL0), ((.slice cA1 cn1 cc1), .ints aL1)] ∧ Below w.heap.size w w' := by
  go_enter Try.func49, Try.ntmps49
  go_wp2_with fail
  refine (toGateS_L (RdL.b (ls := [((.slice aA0 an0 ac0), .gates aL0)]) (RdL.sub h (by simp))) aL0n).mono ?_
  rintro e w1 ⟨cA0, cn0, cc0, rfl, r0, b1⟩
  have z1 := b1.size
  try simp only [World.size_alloc, World.size_setCell, size_drew] at z1
  have B1 : Below w.heap.size w w1 := Below.t b1
  have xa_ : Box w1 (w.heap.size) #[(.slice aA0 an0 ac0), (.slice aA1 an1 ac1)] 63 := (((Box.new (g := w.heap.size) _ #[(.slice aA0 an0 ac0), (.slice aA1 an1 ac1)] 63 (by simp)).alloc _).alloc _).below b1 (by first | omega | (simp [size_drew]; done) | (simp [size_drew]; omega))
  have xa := xa_; clear xa_
  have xr_ : Box w1 (w.heap.size + 1) #[.slice none 0 0, .slice none 0 0] 27 := ((Box.new (g := w.heap.size + 1) _ #[.slice none 0 0, .slice none 0 0] 27 (by simp)).alloc _).below b1 (by first | omega | (simp [size_drew]; done) | (simp [size_drew]; omega))
  have xr := xr_; clear xr_
  have xo_ : Box w1 (w.heap.size + 1 + 1) #[.slice none 0 0, .slice none 0 0] 27 := (Box.new (g := w.heap.size + 1 + 1) _ #[.slice none 0 0, .slice none 0 0] 27 (by simp)).below b1 (by first | omega | (simp [size_drew]; done) | (simp [size_drew]; omega))
  have xo := xo_; clear xo_
  try simp only [World.size_alloc, World.size_setCell, size_drew] at r0
  obtain ⟨cxo_0, cxo_1, fxo_0, fxo_1⟩ := xo.two
  have l_xo_0 : w.heap.size + 1 + 1 < w1.heap.size := by omega
  obtain ⟨cxa_0, cxa_1, fxa_0, fxa_1⟩ := xa.two
  have l_xa_0 : w.heap.size < w1.heap.size := by omega
  go_wp2_with fail
  refine (toIntS_L (RdL.b (ls := [((.slice aA1 an1 ac1), .ints aL1)]) (RdL.sub h (by simp))) aL1n).mono ?_
  rintro e w2 ⟨cA1, cn1, cc1, rfl, r1, b2⟩
  clear cxo_0 cxo_1 fxo_0 fxo_1 l_xo_0 cxa_0 cxa_1 fxa_0 fxa_1 l_xa_0
  have z2 := b2.size
  try simp only [World.size_alloc, World.size_setCell, size_drew] at z2
  have B2 : Below w.heap.size w w2 := Below.t b2
  have r0_ := (r0.setBox (by omega)).below b2
  clear r0; have r0 := r0_; clear r0_
  have xa_ : Box w2 (w.heap.size) #[(.slice aA0 an0 ac0), (.slice aA1 an1 ac1)] 63 := (xa.far (by omega)).below b2 (by first | omega | (simp [size_drew]; done) | (simp [size_drew]; omega))
  clear xa; have xa := xa_; clear xa_
  have xr_ : Box w2 (w.heap.size + 1) #[.slice none 0 0, .slice none 0 0] 27 := (xr.far (by omega)).below b2 (by first | omega | (simp [size_drew]; done) | (simp [size_drew]; omega))
  clear xr; have xr := xr_; clear xr_
  have xo_ : Box w2 (w.heap.size + 1 + 1) #[(.slice cA0 cn0 cc0), .slice none 0 0] 27 := (xo.setAt (i := 0) (v := (.slice cA0 cn0 cc0)) (ds := #[(.slice cA0 cn0 cc0), .slice none 0 0]) (by simp)).below b2 (by first | omega | (simp [size_drew]; done) | (simp [size_drew]; omega))
  clear xo; have xo := xo_; clear xo_
  try simp only [World.size_alloc, World.size_setCell, size_drew] at r1
  obtain ⟨cxo_0, cxo_1, fxo_0, fxo_1⟩ := xo.two
  have l_xo_0 : w.heap.size + 1 + 1 < w2.heap.size := by omega
  obtain ⟨cxa_0, cxa_1, fxa_0, fxa_1⟩ := xa.two
  have l_xa_0 : w.heap.size < w2.heap.size := by omega
  obtain ⟨cxr_0, cxr_1, fxr_0, fxr_1⟩ := xr.two
  have l_xr_0 : w.heap.size + 1 < w2.heap.size := by omega
  go_wp2
  refine bodyPost_ret (v := .agg #[(.slice cA0 cn0 cc0), (.slice cA1 cn1 cc1)]) ?_ rfl ⟨cA0, cn0, cc0, cA1, cn1, cc1, rfl, ?_, ?_⟩
  · simp [results, Try.results49, go_sem, cxo_0, cxo_1, fxo_0, fxo_1, l_xo_0, cxa_0, cxa_1, fxa_0, fxa_1, l_xa_0, cxr_0, cxr_1, fxr_0, fxr_1, l_xr_0]
  · have R := (OwnL.then r0 r1 (by omega))
    simp only [List.cons_append, List.nil_append] at R
    refine OwnL.widen (lo := w.heap.size + 1 + 1 + 1) (hi := w2.heap.size) ?_ (by omega)
    repeat (with_reducible (first | exact R | refine OwnL.alloc ?_ _ | refine OwnL.setBox ?_ ?_ | refine OwnL.drew ?_))
    all_goals omega
  · repeat (with_reducible (first | assumption | exact Below.refl _ _ | refine Below.alloc ?_ (by first | omega | (simp; done) | (simp; omega)) _ | refine Below.setCell ?_ (by first | omega | (simp; done) | (simp; omega)) _ | refine Below.drew ?_ | refine below_drewN ?_ _))
set_option maxRecDepth 100000 in
set_option maxHeartbeats 1000000 in
theorem eqCircuit_L {aA0 : Option Addr} {an0 ac0 : Nat} {aL0 : List (Int × Int × Int)} {aA1 : Option Addr} {an1 ac1 : Nat} {aL1 : List Int} {cA0 : Option Addr} {cn0 cc0 : Nat} {cA1 : Option Addr} {cn1 cc1 : Nat} {w : World} (h : RdL w [((.slice aA0 an0 ac0), .gates aL0), ((.slice aA1 an1 ac1), .ints aL1)]) (h2 : RdL w [((.slice cA0 cn0 cc0), .gates aL0), ((.slice cA1 cn1 cc1), .ints aL1)]) (aL0n : aL0.length ≤ 1048576) (aL1n : aL1.length ≤ 1048576) :
    Calls Try.prog 51 #[.agg #[(.slice aA0 an0 ac0), (.slice aA1 an1 ac1)], .agg #[(.slice cA0 cn0 cc0), (.slice cA1 cn1 cc1)]] w fun e w' => e = .returned (.bool true) ∧ Below w.heap.size w w' := by
  go_enter Try.func51, Try.ntmps51
  go_wp2_with fail
  refine (eqGateS_L (RdL.b (ls := [((.slice aA0 an0 ac0), .gates aL0)]) (RdL.sub h (by simp))) (RdL.b (ls := [((.slice cA0 cn0 cc0), .gates aL0)]) (RdL.sub h2 (by simp))) aL0n).mono ?_
  rintro e w1 ⟨rfl, b1⟩
  have z1 := b1.size
  try simp only [World.size_alloc, World.size_setCell, size_drew] at z1
  have B1 : Below w.heap.size w w1 := Below.t b1
  have xa_ : Box w1 (w.heap.size) #[(.slice aA0 an0 ac0), (.slice aA1 an1 ac1)] 27 := ((Box.new (g := w.heap.size) _ #[(.slice aA0 an0 ac0), (.slice aA1 an1 ac1)] 27 (by simp)).alloc _).below b1 (by first | omega | (simp [size_drew]; done) | (simp [size_drew]; omega))
  have xa := xa_; clear xa_
  have xc_ : Box w1 (w.heap.size + 1) #[(.slice cA0 cn0 cc0), (.slice cA1 cn1 cc1)] 27 := (Box.new (g := w.heap.size + 1) _ #[(.slice cA0 cn0 cc0), (.slice cA1 cn1 cc1)] 27 (by simp)).below b1 (by first | omega | (simp [size_drew]; done) | (simp [size_drew]; omega))
  have xc := xc_; clear xc_
  obtain ⟨cxa_0, cxa_1, fxa_0, fxa_1⟩ := xa.two
  have l_xa_0 : w.heap.size < w1.heap.size := by omega
  obtain ⟨cxc_0, cxc_1, fxc_0, fxc_1⟩ := xc.two
  have l_xc_0 : w.heap.size + 1 < w1.heap.size := by omega
  go_wp2_with fail
  refine (eqIntS_L (RdL.b (ls := [((.slice aA1 an1 ac1), .ints aL1)]) (RdL.sub h (by simp))) (RdL.b (ls := [((.slice cA1 cn1 cc1), .ints aL1)]) (RdL.sub h2 (by simp))) aL1n).mono ?_
  rintro e w2 ⟨rfl, b2⟩
  clear cxa_0 cxa_1 fxa_0 fxa_1 l_xa_0 cxc_0 cxc_1 fxc_0 fxc_1 l_xc_0
  have z2 := b2.size
  try simp only [World.size_alloc, World.size_setCell, size_drew] at z2
  have B2 : Below w.heap.size w w2 := Below.t b2
  have xa_ : Box w2 (w.heap.size) #[(.slice aA0 an0 ac0), (.slice aA1 an1 ac1)] 27 := xa.below b2 (by first | omega | (simp [size_drew]; done) | (simp [size_drew]; omega))
  clear xa; have xa := xa_; clear xa_
  have xc_ : Box w2 (w.heap.size + 1) #[(.slice cA0 cn0 cc0), (.slice cA1 cn1 cc1)] 27 := xc.below b2 (by first | omega | (simp [size_drew]; done) | (simp [size_drew]; omega))
  clear xc; have xc := xc_; clear xc_
  obtain ⟨cxa_0, cxa_1, fxa_0, fxa_1⟩ := xa.two
  have l_xa_0 : w.heap.size < w2.heap.size := by omega
  obtain ⟨cxc_0, cxc_1, fxc_0, fxc_1⟩ := xc.two
  have l_xc_0 : w.heap.size + 1 < w2.heap.size := by omega
  go_wp2
  go_ret
  refine ⟨rfl, ?_⟩
  repeat (with_reducible (first | assumption | exact Below.refl _ _ | refine Below.alloc ?_ (by first | omega | (simp; done) | (simp; omega)) _ | refine Below.setCell ?_ (by first | omega | (simp; done) | (simp; omega)) _ | refine Below.drew ?_ | refine below_drewN ?_ _))
set_option maxRecDepth 100000 in
set_option maxHeartbeats 1000000 in
theorem markGarbled_P {lo hi : Nat} {pre post : List (Value × Dat)} {aA1 : Option Addr} {an1 ac1 : Nat} {aL1 : List Int} {aA2 : Option Addr} {an2 ac2 : Nat} {aL2 : List Int} {w : World} (aI0 : Int) (k0 : Nat) (K : Int) (h : OwnL w lo hi (pre ++ ((.slice aA1 an1 ac1), .ints aL1) :: ((.slice aA2 an2 ac2), .ints aL2) :: post)) (hK : K = k0) (hk : k0 ≤ 500000000000) (aL1n : aL1.length ≤ 1048576) (aL2n : aL2.length ≤ 1048576) :
    Calls Try.prog 72 #[.agg #[.int .i64 aI0, (.slice aA1 an1 ac1), (.slice aA2 an2 ac2)], .int .i64 K] w fun e w' => e = .returned (.int .i64 (((k0 + (aL1.length + aL2.length) : Nat) : Int))) ∧ OwnL w' lo hi (pre ++ ((.slice aA1 an1 ac1), .ints (seqL (k0) aL1.length)) :: ((.slice aA2 an2 ac2), .ints (seqL (k0 + aL1.length) aL2.length)) :: post) ∧ Chg lo hi w w' := by
  subst hK
  have hlo := h.1
  have hhi := h.2.1
  go_enter Try.func72, Try.ntmps72
  replace h : OwnL w lo hi (pre ++ ((.slice aA1 an1 ac1), .ints aL1) :: (((.slice aA2 an2 ac2), .ints aL2) :: post)) := by simpa using h
  go_wp2_with fail
  refine (markIntS_L (pre := pre) (post := (((.slice aA2 an2 ac2), .ints aL2) :: post)) (k0) _ (h.alloc _) (by first | omega | (simp [size_drew]; done) | (simp [size_drew]; omega)) (by omega) aL1n).mono ?_
  rintro e w1 ⟨rfl, h, c1⟩
  have z1 := c1.size
  try simp only [World.size_alloc, World.size_setCell, size_drew] at z1
  have xa_ : Box w1 (w.heap.size) #[.int .i64 aI0, (.slice aA1 an1 ac1), (.slice aA2 an2 ac2)] 33 := (Box.new (g := w.heap.size) _ #[.int .i64 aI0, (.slice aA1 an1 ac1), (.slice aA2 an2 ac2)] 33 (by simp)).chg c1 (by omega)
  have xa := xa_; clear xa_
  replace h : OwnL w1 lo hi ((pre ++ (((.slice aA1 an1 ac1), .ints (seqL (k0) aL1.length)) :: [])) ++ ((.slice aA2 an2 ac2), .ints aL2) :: post) := by simpa using h
  obtain ⟨cxa_0, cxa_1, cxa_2, fxa_0, fxa_1, fxa_2⟩ := xa.three
  have l_xa_0 : w.heap.size < w1.heap.size := by omega
  go_wp2_with fail
  refine (markIntS_L (pre := (pre ++ (((.slice aA1 an1 ac1), .ints (seqL (k0) aL1.length)) :: []))) (post := post) (k0 + aL1.length) _ h (by first | omega | (simp [size_drew]; done) | (simp [size_drew]; omega)) (by omega) aL2n).mono ?_
  rintro e w2 ⟨rfl, h, c2⟩
  clear cxa_0 cxa_1 cxa_2 fxa_0 fxa_1 fxa_2 l_xa_0
  have z2 := c2.size
  try simp only [World.size_alloc, World.size_setCell, size_drew] at z2
  have xa_ : Box w2 (w.heap.size) #[.int .i64 aI0, (.slice aA1 an1 ac1), (.slice aA2 an2 ac2)] 33 := xa.chg c2 (by omega)
  clear xa; have xa := xa_; clear xa_
  obtain ⟨cxa_0, cxa_1, cxa_2, fxa_0, fxa_1, fxa_2⟩ := xa.three
  have l_xa_0 : w.heap.size < w2.heap.size := by omega
  go_wp2
  go_ret
  refine ⟨ret_int (by omega), by simpa using h, ?_⟩
  exact (Chg.trans (Chg.of_alloc _ c1) c2)
set_option maxRecDepth 100000 in
set_option maxHeartbeats 1000000 in
theorem markGarbled_L {lo hi : Nat} {aA1 : Option Addr} {an1 ac1 : Nat} {aL1 : List Int} {aA2 : Option Addr} {an2 ac2 : Nat} {aL2 : List Int} {w : World} (aI0 : Int) (k0 : Nat) (K : Int) (h : OwnL w lo hi [((.slice aA1 an1 ac1), .ints aL1), ((.slice aA2 an2 ac2), .ints aL2)]) (hK : K = k0) (hk : k0 ≤ 500000000000) (aL1n : aL1.length ≤ 1048576) (aL2n : aL2.length ≤ 1048576) :
    Calls Try.prog 72 #[.agg #[.int .i64 aI0, (.slice aA1 an1 ac1), (.slice aA2 an2 ac2)], .int .i64 K] w fun e w' => e = .returned (.int .i64 (((k0 + (aL1.length + aL2.length) : Nat) : Int))) ∧ OwnL w' lo hi (((.slice aA1 an1 ac1), .ints (seqL (k0) aL1.length)) :: ((.slice aA2 an2 ac2), .ints (seqL (k0 + aL1.length) aL2.length)) :: []) ∧ Chg lo hi w w' := by
  exact markGarbled_P (pre := []) (post := []) aI0 k0 K h hK hk aL1n aL2n
set_option maxRecDepth 100000 in
set_option maxHeartbeats 1000000 in
theorem heldGarbled_L {aA1 : Option Addr} {an1 ac1 : Nat} {aA2 : Option Addr} {an2 ac2 : Nat} {w : World} (m1 m2 : Nat) (aI0 : Int) (k0 : Nat) (K : Int) (h : RdL w [((.slice aA1 an1 ac1), .ints (seqL (k0) m1)), ((.slice aA2 an2 ac2), .ints (seqL (k0 + m1) m2))]) (hK : K = k0) (hk : k0 ≤ 500000000000) (hm1 : m1 ≤ 1048576) (hm2 : m2 ≤ 1048576) :
    Calls Try.prog 80 #[.agg #[.int .i64 aI0, (.slice aA1 an1 ac1), (.slice aA2 an2 ac2)], .int .i64 K] w fun e w' => e = .returned (.int .i64 (((k0 + (m1 + m2) : Nat) : Int))) ∧ Below w.heap.size w w' := by
  subst hK
  go_enter Try.func80, Try.ntmps80
  go_wp2_with fail
  refine (heldIntS_L m1 (k0) _ (RdL.b (ls := [((.slice aA1 an1 ac1), .ints (seqL (k0) m1))]) (RdL.sub h (by simp))) (by first | omega | (simp [size_drew]; done) | (simp [size_drew]; omega)) (by omega) hm1).mono ?_
  rintro e w_ ⟨rfl, rfl⟩
  go_wp2_with fail
  refine (heldIntS_L m2 (k0 + m1) _ (RdL.b (ls := [((.slice aA2 an2 ac2), .ints (seqL (k0 + m1) m2))]) (RdL.sub h (by simp))) (by first | omega | (simp [size_drew]; done) | (simp [size_drew]; omega)) (by omega) hm2).mono ?_
  rintro e w_ ⟨rfl, rfl⟩
  go_wp2
  go_ret
  refine ⟨ret_int (by omega), ?_⟩
  repeat (with_reducible (first | assumption | exact Below.refl _ _ | refine Below.alloc ?_ (by first | omega | (simp; done) | (simp; omega)) _ | refine Below.setCell ?_ (by first | omega | (simp; done) | (simp; omega)) _ | refine Below.drew ?_ | refine below_drewN ?_ _))
set_option maxRecDepth 100000 in
set_option maxHeartbeats 1000000 in
theorem markPublic_P {lo hi : Nat} {pre post : List (Value × Dat)} {aA0 : Option Addr} {an0 ac0 : Nat} {aL0 : List Int} {aA1 : Option Addr} {an1 ac1 : Nat} {aL1 : List Int} {aA2 : Option Addr} {an2 ac2 : Nat} {aL2 : List Int} {w : World} (k0 : Nat) (K : Int) (h : OwnL w lo hi (pre ++ ((.slice aA0 an0 ac0), .ints aL0) :: ((.slice aA1 an1 ac1), .ints aL1) :: ((.slice aA2 an2 ac2), .ints aL2) :: post)) (hK : K = k0) (hk : k0 ≤ 500000000000) (aL0n : aL0.length ≤ 1048576) (aL1n : aL1.length ≤ 1048576) (aL2n : aL2.length ≤ 1048576) :
    Calls Try.prog 70 #[.agg #[(.slice aA0 an0 ac0), (.slice aA1 an1 ac1), (.slice aA2 an2 ac2)], .int .i64 K] w fun e w' => e = .returned (.int .i64 (((k0 + (aL0.length + aL1.length + aL2.length) : Nat) : Int))) ∧ OwnL w' lo hi (pre ++ ((.slice aA0 an0 ac0), .ints (seqL (k0) aL0.length)) :: ((.slice aA1 an1 ac1), .ints (seqL (k0 + aL0.length) aL1.length)) :: ((.slice aA2 an2 ac2), .ints (seqL (k0 + aL0.length + aL1.length) aL2.length)) :: post) ∧ Chg lo hi w w' := by
  subst hK
  have hlo := h.1
  have hhi := h.2.1
  go_enter Try.func70, Try.ntmps70
  replace h : OwnL w lo hi (pre ++ ((.slice aA0 an0 ac0), .ints aL0) :: (((.slice aA1 an1 ac1), .ints aL1) :: ((.slice aA2 an2 ac2), .ints aL2) :: post)) := by simpa using h
  go_wp2_with fail
  refine (markIntS_L (pre := pre) (post := (((.slice aA1 an1 ac1), .ints aL1) :: ((.slice aA2 an2 ac2), .ints aL2) :: post)) (k0) _ (h.alloc _) (by first | omega | (simp [size_drew]; done) | (simp [size_drew]; omega)) (by omega) aL0n).mono ?_
  rintro e w1 ⟨rfl, h, c1⟩
  have z1 := c1.size
  try simp only [World.size_alloc, World.size_setCell, size_drew] at z1
  have xa_ : Box w1 (w.heap.size) #[(.slice aA0 an0 ac0), (.slice aA1 an1 ac1), (.slice aA2 an2 ac2)] 37 := (Box.new (g := w.heap.size) _ #[(.slice aA0 an0 ac0), (.slice aA1 an1 ac1), (.slice aA2 an2 ac2)] 37 (by simp)).chg c1 (by omega)
  have xa := xa_; clear xa_
  replace h : OwnL w1 lo hi ((pre ++ (((.slice aA0 an0 ac0), .ints (seqL (k0) aL0.length)) :: [])) ++ ((.slice aA1 an1 ac1), .ints aL1) :: (((.slice aA2 an2 ac2), .ints aL2) :: post)) := by simpa using h
  obtain ⟨cxa_0, cxa_1, cxa_2, fxa_0, fxa_1, fxa_2⟩ := xa.three
  have l_xa_0 : w.heap.size < w1.heap.size := by omega
  go_wp2_with fail
  refine (markIntS_L (pre := (pre ++ (((.slice aA0 an0 ac0), .ints (seqL (k0) aL0.length)) :: []))) (post := (((.slice aA2 an2 ac2), .ints aL2) :: post)) (k0 + aL0.length) _ h (by first | omega | (simp [size_drew]; done) | (simp [size_drew]; omega)) (by omega) aL1n).mono ?_
  rintro e w2 ⟨rfl, h, c2⟩
  clear cxa_0 cxa_1 cxa_2 fxa_0 fxa_1 fxa_2 l_xa_0
  have z2 := c2.size
  try simp only [World.size_alloc, World.size_setCell, size_drew] at z2
  have xa_ : Box w2 (w.heap.size) #[(.slice aA0 an0 ac0), (.slice aA1 an1 ac1), (.slice aA2 an2 ac2)] 37 := xa.chg c2 (by omega)
  clear xa; have xa := xa_; clear xa_
  replace h : OwnL w2 lo hi ((pre ++ (((.slice aA0 an0 ac0), .ints (seqL (k0) aL0.length)) :: ((.slice aA1 an1 ac1), .ints (seqL (k0 + aL0.length) aL1.length)) :: [])) ++ ((.slice aA2 an2 ac2), .ints aL2) :: post) := by simpa using h
  obtain ⟨cxa_0, cxa_1, cxa_2, fxa_0, fxa_1, fxa_2⟩ := xa.three
  have l_xa_0 : w.heap.size < w2.heap.size := by omega
  go_wp2_with fail
  refine (markIntS_L (pre := (pre ++ (((.slice aA0 an0 ac0), .ints (seqL (k0) aL0.length)) :: ((.slice aA1 an1 ac1), .ints (seqL (k0 + aL0.length) aL1.length)) :: []))) (post := post) (k0 + aL0.length + aL1.length) _ h (by first | omega | (simp [size_drew]; done) | (simp [size_drew]; omega)) (by omega) aL2n).mono ?_
  rintro e w3 ⟨rfl, h, c3⟩
  clear cxa_0 cxa_1 cxa_2 fxa_0 fxa_1 fxa_2 l_xa_0
  have z3 := c3.size
  try simp only [World.size_alloc, World.size_setCell, size_drew] at z3
  have xa_ : Box w3 (w.heap.size) #[(.slice aA0 an0 ac0), (.slice aA1 an1 ac1), (.slice aA2 an2 ac2)] 37 := xa.chg c3 (by omega)
  clear xa; have xa := xa_; clear xa_
  obtain ⟨cxa_0, cxa_1, cxa_2, fxa_0, fxa_1, fxa_2⟩ := xa.three
  have l_xa_0 : w.heap.size < w3.heap.size := by omega
  go_wp2
  go_ret
  refine ⟨ret_int (by omega), by simpa using h, ?_⟩
  exact (Chg.trans (Chg.trans (Chg.of_alloc _ c1) c2) c3)
set_option maxRecDepth 100000 in
set_option maxHeartbeats 1000000 in
theorem markPublic_L {lo hi : Nat} {aA0 : Option Addr} {an0 ac0 : Nat} {aL0 : List Int} {aA1 : Option Addr} {an1 ac1 : Nat} {aL1 : List Int} {aA2 : Option Addr} {an2 ac2 : Nat} {aL2 : List Int} {w : World} (k0 : Nat) (K : Int) (h : OwnL w lo hi [((.slice aA0 an0 ac0), .ints aL0), ((.slice aA1 an1 ac1), .ints aL1), ((.slice aA2 an2 ac2), .ints aL2)]) (hK : K = k0) (hk : k0 ≤ 500000000000) (aL0n : aL0.length ≤ 1048576) (aL1n : aL1.length ≤ 1048576) (aL2n : aL2.length ≤ 1048576) :
    Calls Try.prog 70 #[.agg #[(.slice aA0 an0 ac0), (.slice aA1 an1 ac1), (.slice aA2 an2 ac2)], .int .i64 K] w fun e w' => e = .returned (.int .i64 (((k0 + (aL0.length + aL1.length + aL2.length) : Nat) : Int))) ∧ OwnL w' lo hi (((.slice aA0 an0 ac0), .ints (seqL (k0) aL0.length)) :: ((.slice aA1 an1 ac1), .ints (seqL (k0 + aL0.length) aL1.length)) :: ((.slice aA2 an2 ac2), .ints (seqL (k0 + aL0.length + aL1.length) aL2.length)) :: []) ∧ Chg lo hi w w' := by
  exact markPublic_P (pre := []) (post := [])  k0 K h hK hk aL0n aL1n aL2n
set_option maxRecDepth 100000 in
set_option maxHeartbeats 1000000 in
theorem heldPublic_L {aA0 : Option Addr} {an0 ac0 : Nat} {aA1 : Option Addr} {an1 ac1 : Nat} {aA2 : Option Addr} {an2 ac2 : Nat} {w : World} (m0 m1 m2 : Nat) (k0 : Nat) (K : Int) (h : RdL w [((.slice aA0 an0 ac0), .ints (seqL (k0) m0)), ((.slice aA1 an1 ac1), .ints (seqL (k0 + m0) m1)), ((.slice aA2 an2 ac2), .ints (seqL (k0 + m0 + m1) m2))]) (hK : K = k0) (hk : k0 ≤ 500000000000) (hm0 : m0 ≤ 1048576) (hm1 : m1 ≤ 1048576) (hm2 : m2 ≤ 1048576) :
    Calls Try.prog 73 #[.agg #[(.slice aA0 an0 ac0), (.slice aA1 an1 ac1), (.slice aA2 an2 ac2)], .int .i64 K] w fun e w' => e = .returned (.int .i64 (((k0 + (m0 + m1 + m2) : Nat) : Int))) ∧ Below w.heap.size w w' := by
  subst hK
  go_enter Try.func73, Try.ntmps73
  go_wp2_with fail
  refine (heldIntS_L m0 (k0) _ (RdL.b (ls := [((.slice aA0 an0 ac0), .ints (seqL (k0) m0))]) (RdL.sub h (by simp))) (by first | omega | (simp [size_drew]; done) | (simp [size_drew]; omega)) (by omega) hm0).mono ?_
  rintro e w_ ⟨rfl, rfl⟩
  go_wp2_with fail
  refine (heldIntS_L m1 (k0 + m0) _ (RdL.b (ls := [((.slice aA1 an1 ac1), .ints (seqL (k0 + m0) m1))]) (RdL.sub h (by simp))) (by first | omega | (simp [size_drew]; done) | (simp [size_drew]; omega)) (by omega) hm1).mono ?_
  rintro e w_ ⟨rfl, rfl⟩
  go_wp2_with fail
  refine (heldIntS_L m2 (k0 + m0 + m1) _ (RdL.b (ls := [((.slice aA2 an2 ac2), .ints (seqL (k0 + m0 + m1) m2))]) (RdL.sub h (by simp))) (by first | omega | (simp [size_drew]; done) | (simp [size_drew]; omega)) (by omega) hm2).mono ?_
  rintro e w_ ⟨rfl, rfl⟩
  go_wp2
  go_ret
  refine ⟨ret_int (by omega), ?_⟩
  repeat (with_reducible (first | assumption | exact Below.refl _ _ | refine Below.alloc ?_ (by first | omega | (simp; done) | (simp; omega)) _ | refine Below.setCell ?_ (by first | omega | (simp; done) | (simp; omega)) _ | refine Below.drew ?_ | refine below_drewN ?_ _))
set_option maxRecDepth 100000 in
set_option maxHeartbeats 1000000 in
theorem markCircuit_P {lo hi : Nat} {pre post : List (Value × Dat)} {aA0 : Option Addr} {an0 ac0 : Nat} {aL0 : List (Int × Int × Int)} {aA1 : Option Addr} {an1 ac1 : Nat} {aL1 : List Int} {w : World} (k0 : Nat) (K : Int) (h : OwnL w lo hi (pre ++ ((.slice aA0 an0 ac0), .gates aL0) :: ((.slice aA1 an1 ac1), .ints aL1) :: post)) (hK : K = k0) (hk : k0 ≤ 500000000000) (aL0n : aL0.length ≤ 1048576) (aL1n : aL1.length ≤ 1048576) :
    Calls Try.prog 52 #[.agg #[(.slice aA0 an0 ac0), (.slice aA1 an1 ac1)], .int .i64 K] w fun e w' => e = .returned (.int .i64 (((k0 + (3 * aL0.length + aL1.length) : Nat) : Int))) ∧ OwnL w' lo hi (pre ++ ((.slice aA0 an0 ac0), .gates (seqG (k0) aL0.length)) :: ((.slice aA1 an1 ac1), .ints (seqL (k0 + 3 * aL0.length) aL1.length)) :: post) ∧ Chg lo hi w w' := by
  subst hK
  have hlo := h.1
  have hhi := h.2.1
  go_enter Try.func52, Try.ntmps52
  replace h : OwnL w lo hi (pre ++ ((.slice aA0 an0 ac0), .gates aL0) :: (((.slice aA1 an1 ac1), .ints aL1) :: post)) := by simpa using h
  go_wp2_with fail
  refine (markGateS_L (pre := pre) (post := (((.slice aA1 an1 ac1), .ints aL1) :: post)) (k0) _ (h.alloc _) (by first | omega | (simp [size_drew]; done) | (simp [size_drew]; omega)) (by omega) aL0n).mono ?_
  rintro e w1 ⟨rfl, h, c1⟩
  have z1 := c1.size
  try simp only [World.size_alloc, World.size_setCell, size_drew] at z1
  have xa_ : Box w1 (w.heap.size) #[(.slice aA0 an0 ac0), (.slice aA1 an1 ac1)] 27 := (Box.new (g := w.heap.size) _ #[(.slice aA0 an0 ac0), (.slice aA1 an1 ac1)] 27 (by simp)).chg c1 (by omega)
  have xa := xa_; clear xa_
  replace h : OwnL w1 lo hi ((pre ++ (((.slice aA0 an0 ac0), .gates (seqG (k0) aL0.length)) :: [])) ++ ((.slice aA1 an1 ac1), .ints aL1) :: post) := by simpa using h
  obtain ⟨cxa_0, cxa_1, fxa_0, fxa_1⟩ := xa.two
  have l_xa_0 : w.heap.size < w1.heap.size := by omega
  go_wp2_with fail
  refine (markIntS_L (pre := (pre ++ (((.slice aA0 an0 ac0), .gates (seqG (k0) aL0.length)) :: []))) (post := post) (k0 + 3 * aL0.length) _ h (by first | omega | (simp [size_drew]; done) | (simp [size_drew]; omega)) (by omega) aL1n).mono ?_
  rintro e w2 ⟨rfl, h, c2⟩
  clear cxa_0 cxa_1 fxa_0 fxa_1 l_xa_0
  have z2 := c2.size
  try simp only [World.size_alloc, World.size_setCell, size_drew] at z2
  have xa_ : Box w2 (w.heap.size) #[(.slice aA0 an0 ac0), (.slice aA1 an1 ac1)] 27 := xa.chg c2 (by omega)
  clear xa; have xa := xa_; clear xa_
  obtain ⟨cxa_0, cxa_1, fxa_0, fxa_1⟩ := xa.two
  have l_xa_0 : w.heap.size < w2.heap.size := by omega
  go_wp2
  go_ret
  refine ⟨ret_int (by omega), by simpa using h, ?_⟩
  exact (Chg.trans (Chg.of_alloc _ c1) c2)
set_option maxRecDepth 100000 in
set_option maxHeartbeats 1000000 in
theorem markCircuit_L {lo hi : Nat} {aA0 : Option Addr} {an0 ac0 : Nat} {aL0 : List (Int × Int × Int)} {aA1 : Option Addr} {an1 ac1 : Nat} {aL1 : List Int} {w : World} (k0 : Nat) (K : Int) (h : OwnL w lo hi [((.slice aA0 an0 ac0), .gates aL0), ((.slice aA1 an1 ac1), .ints aL1)]) (hK : K = k0) (hk : k0 ≤ 500000000000) (aL0n : aL0.length ≤ 1048576) (aL1n : aL1.length ≤ 1048576) :
    Calls Try.prog 52 #[.agg #[(.slice aA0 an0 ac0), (.slice aA1 an1 ac1)], .int .i64 K] w fun e w' => e = .returned (.int .i64 (((k0 + (3 * aL0.length + aL1.length) : Nat) : Int))) ∧ OwnL w' lo hi (((.slice aA0 an0 ac0), .gates (seqG (k0) aL0.length)) :: ((.slice aA1 an1 ac1), .ints (seqL (k0 + 3 * aL0.length) aL1.length)) :: []) ∧ Chg lo hi w w' := by
  exact markCircuit_P (pre := []) (post := [])  k0 K h hK hk aL0n aL1n
set_option maxRecDepth 100000 in
set_option maxHeartbeats 1000000 in
theorem szGarbled_yes {aA1 : Option Addr} {an1 ac1 : Nat} {aL1 : List Int} {aA2 : Option Addr} {an2 ac2 : Nat} {aL2 : List Int} {w : World} (aI0 : Int) (aL1h : Rd0 w (.slice aA1 an1 ac1) aL1) (aL2h : Rd0 w (.slice aA2 an2 ac2) aL2) (left : Nat) (K : Int) (hK : K = left) (hleft : left ≤ 1048576) (hle : aL1.length + aL2.length ≤ left) :
    Calls Try.prog 57 #[.agg #[.int .i64 aI0, (.slice aA1 an1 ac1), (.slice aA2 an2 ac2)], .int .i64 K] w fun e w' => e = .returned (.int .i64 ((left - (aL1.length + aL2.length) : Nat) : Int)) ∧ Below w.heap.size w w' := by
  subst hK
  go_enter Try.func57, Try.ntmps57
  go_wp2_with fail
  refine (szIntS_yes aL1h.b (left) _ (by first | rfl | simp) (by omega) (by omega)).mono ?_
  rintro e w1 ⟨rfl, b1⟩
  have z1 := b1.size
  try simp only [World.size_alloc, World.size_setCell, size_drew] at z1
  have B1 : Below w.heap.size w w1 := Below.t b1
  have xa_ : Box w1 (w.heap.size) #[.int .i64 aI0, (.slice aA1 an1 ac1), (.slice aA2 an2 ac2)] 75 := (Box.new (g := w.heap.size) _ #[.int .i64 aI0, (.slice aA1 an1 ac1), (.slice aA2 an2 ac2)] 75 (by simp)).below b1 (by first | omega | (simp [size_drew]; done) | (simp [size_drew]; omega))
  have xa := xa_; clear xa_
  obtain ⟨cxa_0, cxa_1, cxa_2, fxa_0, fxa_1, fxa_2⟩ := xa.three
  have l_xa_0 : w.heap.size < w1.heap.size := by omega
  go_wp2_with fail
  refine (szIntS_yes aL2h.b (left - (aL1.length)) _ (by first | rfl | simp) (by omega) (by omega)).mono ?_
  rintro e w2 ⟨rfl, b2⟩
  clear cxa_0 cxa_1 cxa_2 fxa_0 fxa_1 fxa_2 l_xa_0
  have z2 := b2.size
  try simp only [World.size_alloc, World.size_setCell, size_drew] at z2
  have B2 : Below w.heap.size w w2 := Below.t b2
  have xa_ : Box w2 (w.heap.size) #[.int .i64 aI0, (.slice aA1 an1 ac1), (.slice aA2 an2 ac2)] 75 := xa.below b2 (by first | omega | (simp [size_drew]; done) | (simp [size_drew]; omega))
  clear xa; have xa := xa_; clear xa_
  go_wp2
  go_ret
  refine ⟨ret_int (by omega), ?_⟩
  repeat (with_reducible (first | assumption | exact Below.refl _ _ | refine Below.alloc ?_ (by first | omega | (simp; done) | (simp; omega)) _ | refine Below.setCell ?_ (by first | omega | (simp; done) | (simp; omega)) _ | refine Below.drew ?_ | refine below_drewN ?_ _))
set_option maxRecDepth 100000 in
set_option maxHeartbeats 1000000 in
theorem szGarbled_no {aA1 : Option Addr} {an1 ac1 : Nat} {aL1 : List Int} {aA2 : Option Addr} {an2 ac2 : Nat} {aL2 : List Int} {w : World} (aI0 : Int) (aL1h : Rd0 w (.slice aA1 an1 ac1) aL1) (aL2h : Rd0 w (.slice aA2 an2 ac2) aL2) (left : Nat) (K : Int) (hK : K = left) (hleft : left ≤ 1048576) (hle : ¬ aL1.length + aL2.length ≤ left) :
    Calls Try.prog 57 #[.agg #[.int .i64 aI0, (.slice aA1 an1 ac1), (.slice aA2 an2 ac2)], .int .i64 K] w fun e w' => e = .returned (.int .i64 (-1)) ∧ Below w.heap.size w w' := by
  subst hK
  by_cases q0 : aL1.length ≤ left
  rotate_left
  · go_enter Try.func57, Try.ntmps57
    go_wp2_with fail
    refine (szIntS_no aL1h.b (left) _ (by first | rfl | simp) (by omega) (by omega)).mono ?_
    rintro e w1 ⟨rfl, b1⟩
    have z1 := b1.size
    try simp only [World.size_alloc, World.size_setCell, size_drew] at z1
    have B1 : Below w.heap.size w w1 := Below.t b1
    have xa_ : Box w1 (w.heap.size) #[.int .i64 aI0, (.slice aA1 an1 ac1), (.slice aA2 an2 ac2)] 75 := (Box.new (g := w.heap.size) _ #[.int .i64 aI0, (.slice aA1 an1 ac1), (.slice aA2 an2 ac2)] 75 (by simp)).below b1 (by first | omega | (simp [size_drew]; done) | (simp [size_drew]; omega))
    have xa := xa_; clear xa_
    go_wp2
    go_ret
    refine ⟨rfl, ?_⟩
    repeat (with_reducible (first | assumption | exact Below.refl _ _ | refine Below.alloc ?_ (by first | omega | (simp; done) | (simp; omega)) _ | refine Below.setCell ?_ (by first | omega | (simp; done) | (simp; omega)) _ | refine Below.drew ?_ | refine below_drewN ?_ _))
  go_enter Try.func57, Try.ntmps57
  go_wp2_with fail
  refine (szIntS_yes aL1h.b (left) _ (by first | rfl | simp) (by omega) (by omega)).mono ?_
  rintro e w1 ⟨rfl, b1⟩
  have z1 := b1.size
  try simp only [World.size_alloc, World.size_setCell, size_drew] at z1
  have B1 : Below w.heap.size w w1 := Below.t b1
  have xa_ : Box w1 (w.heap.size) #[.int .i64 aI0, (.slice aA1 an1 ac1), (.slice aA2 an2 ac2)] 75 := (Box.new (g := w.heap.size) _ #[.int .i64 aI0, (.slice aA1 an1 ac1), (.slice aA2 an2 ac2)] 75 (by simp)).below b1 (by first | omega | (simp [size_drew]; done) | (simp [size_drew]; omega))
  have xa := xa_; clear xa_
  obtain ⟨cxa_0, cxa_1, cxa_2, fxa_0, fxa_1, fxa_2⟩ := xa.three
  have l_xa_0 : w.heap.size < w1.heap.size := by omega
  go_wp2_with fail
  refine (szIntS_no aL2h.b (left - (aL1.length)) _ (by first | rfl | simp) (by omega) (by omega)).mono ?_
  rintro e w2 ⟨rfl, b2⟩
  clear cxa_0 cxa_1 cxa_2 fxa_0 fxa_1 fxa_2 l_xa_0
  have z2 := b2.size
  try simp only [World.size_alloc, World.size_setCell, size_drew] at z2
  have B2 : Below w.heap.size w w2 := Below.t b2
  have xa_ : Box w2 (w.heap.size) #[.int .i64 aI0, (.slice aA1 an1 ac1), (.slice aA2 an2 ac2)] 75 := xa.below b2 (by first | omega | (simp [size_drew]; done) | (simp [size_drew]; omega))
  clear xa; have xa := xa_; clear xa_
  go_wp2
  go_ret
  refine ⟨rfl, ?_⟩
  repeat (with_reducible (first | assumption | exact Below.refl _ _ | refine Below.alloc ?_ (by first | omega | (simp; done) | (simp; omega)) _ | refine Below.setCell ?_ (by first | omega | (simp; done) | (simp; omega)) _ | refine Below.drew ?_ | refine below_drewN ?_ _))
set_option maxRecDepth 100000 in
set_option maxHeartbeats 1000000 in
theorem szPublic_yes {aA0 : Option Addr} {an0 ac0 : Nat} {aL0 : List Int} {aA1 : Option Addr} {an1 ac1 : Nat} {aL1 : List Int} {aA2 : Option Addr} {an2 ac2 : Nat} {aL2 : List Int} {w : World} (aL0h : Rd0 w (.slice aA0 an0 ac0) aL0) (aL1h : Rd0 w (.slice aA1 an1 ac1) aL1) (aL2h : Rd0 w (.slice aA2 an2 ac2) aL2) (left : Nat) (K : Int) (hK : K = left) (hleft : left ≤ 1048576) (hle : aL0.length + aL1.length + aL2.length ≤ left) :
    Calls Try.prog 62 #[.agg #[(.slice aA0 an0 ac0), (.slice aA1 an1 ac1), (.slice aA2 an2 ac2)], .int .i64 K] w fun e w' => e = .returned (.int .i64 ((left - (aL0.length + aL1.length + aL2.length) : Nat) : Int)) ∧ Below w.heap.size w w' := by
  subst hK
  go_enter Try.func62, Try.ntmps62
  go_wp2_with fail
  refine (szIntS_yes aL0h.b (left) _ (by first | rfl | simp) (by omega) (by omega)).mono ?_
  rintro e w1 ⟨rfl, b1⟩
  have z1 := b1.size
  try simp only [World.size_alloc, World.size_setCell, size_drew] at z1
  have B1 : Below w.heap.size w w1 := Below.t b1
  have xa_ : Box w1 (w.heap.size) #[(.slice aA0 an0 ac0), (.slice aA1 an1 ac1), (.slice aA2 an2 ac2)] 81 := (Box.new (g := w.heap.size) _ #[(.slice aA0 an0 ac0), (.slice aA1 an1 ac1), (.slice aA2 an2 ac2)] 81 (by simp)).below b1 (by first | omega | (simp [size_drew]; done) | (simp [size_drew]; omega))
  have xa := xa_; clear xa_
  obtain ⟨cxa_0, cxa_1, cxa_2, fxa_0, fxa_1, fxa_2⟩ := xa.three
  have l_xa_0 : w.heap.size < w1.heap.size := by omega
  go_wp2_with fail
  refine (szIntS_yes aL1h.b (left - (aL0.length)) _ (by first | rfl | simp) (by omega) (by omega)).mono ?_
  rintro e w2 ⟨rfl, b2⟩
  clear cxa_0 cxa_1 cxa_2 fxa_0 fxa_1 fxa_2 l_xa_0
  have z2 := b2.size
  try simp only [World.size_alloc, World.size_setCell, size_drew] at z2
  have B2 : Below w.heap.size w w2 := Below.t b2
  have xa_ : Box w2 (w.heap.size) #[(.slice aA0 an0 ac0), (.slice aA1 an1 ac1), (.slice aA2 an2 ac2)] 81 := xa.below b2 (by first | omega | (simp [size_drew]; done) | (simp [size_drew]; omega))
  clear xa; have xa := xa_; clear xa_
  obtain ⟨cxa_0, cxa_1, cxa_2, fxa_0, fxa_1, fxa_2⟩ := xa.three
  have l_xa_0 : w.heap.size < w2.heap.size := by omega
  go_wp2_with fail
  refine (szIntS_yes aL2h.b (left - (aL0.length) - (aL1.length)) _ (by first | rfl | simp) (by omega) (by omega)).mono ?_
  rintro e w3 ⟨rfl, b3⟩
  clear cxa_0 cxa_1 cxa_2 fxa_0 fxa_1 fxa_2 l_xa_0
  have z3 := b3.size
  try simp only [World.size_alloc, World.size_setCell, size_drew] at z3
  have B3 : Below w.heap.size w w3 := Below.t b3
  have xa_ : Box w3 (w.heap.size) #[(.slice aA0 an0 ac0), (.slice aA1 an1 ac1), (.slice aA2 an2 ac2)] 81 := xa.below b3 (by first | omega | (simp [size_drew]; done) | (simp [size_drew]; omega))
  clear xa; have xa := xa_; clear xa_
  go_wp2
  go_ret
  refine ⟨ret_int (by omega), ?_⟩
  repeat (with_reducible (first | assumption | exact Below.refl _ _ | refine Below.alloc ?_ (by first | omega | (simp; done) | (simp; omega)) _ | refine Below.setCell ?_ (by first | omega | (simp; done) | (simp; omega)) _ | refine Below.drew ?_ | refine below_drewN ?_ _))
set_option maxRecDepth 100000 in
set_option maxHeartbeats 1000000 in
theorem szPublic_no {aA0 : Option Addr} {an0 ac0 : Nat} {aL0 : List Int} {aA1 : Option Addr} {an1 ac1 : Nat} {aL1 : List Int} {aA2 : Option Addr} {an2 ac2 : Nat} {aL2 : List Int} {w : World} (aL0h : Rd0 w (.slice aA0 an0 ac0) aL0) (aL1h : Rd0 w (.slice aA1 an1 ac1) aL1) (aL2h : Rd0 w (.slice aA2 an2 ac2) aL2) (left : Nat) (K : Int) (hK : K = left) (hleft : left ≤ 1048576) (hle : ¬ aL0.length + aL1.length + aL2.length ≤ left) :
    Calls Try.prog 62 #[.agg #[(.slice aA0 an0 ac0), (.slice aA1 an1 ac1), (.slice aA2 an2 ac2)], .int .i64 K] w fun e w' => e = .returned (.int .i64 (-1)) ∧ Below w.heap.size w w' := by
  subst hK
  by_cases q0 : aL0.length ≤ left
  rotate_left
  · go_enter Try.func62, Try.ntmps62
    go_wp2_with fail
    refine (szIntS_no aL0h.b (left) _ (by first | rfl | simp) (by omega) (by omega)).mono ?_
    rintro e w1 ⟨rfl, b1⟩
    have z1 := b1.size
    try simp only [World.size_alloc, World.size_setCell, size_drew] at z1
    have B1 : Below w.heap.size w w1 := Below.t b1
    have xa_ : Box w1 (w.heap.size) #[(.slice aA0 an0 ac0), (.slice aA1 an1 ac1), (.slice aA2 an2 ac2)] 81 := (Box.new (g := w.heap.size) _ #[(.slice aA0 an0 ac0), (.slice aA1 an1 ac1), (.slice aA2 an2 ac2)] 81 (by simp)).below b1 (by first | omega | (simp [size_drew]; done) | (simp [size_drew]; omega))
    have xa := xa_; clear xa_
    go_wp2
    go_ret
    refine ⟨rfl, ?_⟩
    repeat (with_reducible (first | assumption | exact Below.refl _ _ | refine Below.alloc ?_ (by first | omega | (simp; done) | (simp; omega)) _ | refine Below.setCell ?_ (by first | omega | (simp; done) | (simp; omega)) _ | refine Below.drew ?_ | refine below_drewN ?_ _))
  by_cases q1 : aL0.length + aL1.length ≤ left
  rotate_left
  · go_enter Try.func62, Try.ntmps62
    go_wp2_with fail
    refine (szIntS_yes aL0h.b (left) _ (by first | rfl | simp) (by omega) (by omega)).mono ?_
    rintro e w1 ⟨rfl, b1⟩
    have z1 := b1.size
    try simp only [World.size_alloc, World.size_setCell, size_drew] at z1
    have B1 : Below w.heap.size w w1 := Below.t b1
    have xa_ : Box w1 (w.heap.size) #[(.slice aA0 an0 ac0), (.slice aA1 an1 ac1), (.slice aA2 an2 ac2)] 81 := (Box.new (g := w.heap.size) _ #[(.slice aA0 an0 ac0), (.slice aA1 an1 ac1), (.slice aA2 an2 ac2)] 81 (by simp)).below b1 (by first | omega | (simp [size_drew]; done) | (simp [size_drew]; omega))
    have xa := xa_; clear xa_
    obtain ⟨cxa_0, cxa_1, cxa_2, fxa_0, fxa_1, fxa_2⟩ := xa.three
    have l_xa_0 : w.heap.size < w1.heap.size := by omega
    go_wp2_with fail
    refine (szIntS_no aL1h.b (left - (aL0.length)) _ (by first | rfl | simp) (by omega) (by omega)).mono ?_
    rintro e w2 ⟨rfl, b2⟩
    clear cxa_0 cxa_1 cxa_2 fxa_0 fxa_1 fxa_2 l_xa_0
    have z2 := b2.size
    try simp only [World.size_alloc, World.size_setCell, size_drew] at z2
    have B2 : Below w.heap.size w w2 := Below.t b2
    have xa_ : Box w2 (w.heap.size) #[(.slice aA0 an0 ac0), (.slice aA1 an1 ac1), (.slice aA2 an2 ac2)] 81 := xa.below b2 (by first | omega | (simp [size_drew]; done) | (simp [size_drew]; omega))
    clear xa; have xa := xa_; clear xa_
    go_wp2
    go_ret
    refine ⟨rfl, ?_⟩
    repeat (with_reducible (first | assumption | exact Below.refl _ _ | refine Below.alloc ?_ (by first | omega | (simp; done) | (simp; omega)) _ | refine Below.setCell ?_ (by first | omega | (simp; done) | (simp; omega)) _ | refine Below.drew ?_ | refine below_drewN ?_ _))
  go_enter Try.func62, Try.ntmps62
  go_wp2_with fail
  refine (szIntS_yes aL0h.b (left) _ (by first | rfl | simp) (by omega) (by omega)).mono ?_
  rintro e w1 ⟨rfl, b1⟩
  have z1 := b1.size
  try simp only [World.size_alloc, World.size_setCell, size_drew] at z1
  have B1 : Below w.heap.size w w1 := Below.t b1
  have xa_ : Box w1 (w.heap.size) #[(.slice aA0 an0 ac0), (.slice aA1 an1 ac1), (.slice aA2 an2 ac2)] 81 := (Box.new (g := w.heap.size) _ #[(.slice aA0 an0 ac0), (.slice aA1 an1 ac1), (.slice aA2 an2 ac2)] 81 (by simp)).below b1 (by first | omega | (simp [size_drew]; done) | (simp [size_drew]; omega))
  have xa := xa_; clear xa_
  obtain ⟨cxa_0, cxa_1, cxa_2, fxa_0, fxa_1, fxa_2⟩ := xa.three
  have l_xa_0 : w.heap.size < w1.heap.size := by omega
  go_wp2_with fail
  refine (szIntS_yes aL1h.b (left - (aL0.length)) _ (by first | rfl | simp) (by omega) (by omega)).mono ?_
  rintro e w2 ⟨rfl, b2⟩
  clear cxa_0 cxa_1 cxa_2 fxa_0 fxa_1 fxa_2 l_xa_0
  have z2 := b2.size
  try simp only [World.size_alloc, World.size_setCell, size_drew] at z2
  have B2 : Below w.heap.size w w2 := Below.t b2
  have xa_ : Box w2 (w.heap.size) #[(.slice aA0 an0 ac0), (.slice aA1 an1 ac1), (.slice aA2 an2 ac2)] 81 := xa.below b2 (by first | omega | (simp [size_drew]; done) | (simp [size_drew]; omega))
  clear xa; have xa := xa_; clear xa_
  obtain ⟨cxa_0, cxa_1, cxa_2, fxa_0, fxa_1, fxa_2⟩ := xa.three
  have l_xa_0 : w.heap.size < w2.heap.size := by omega
  go_wp2_with fail
  refine (szIntS_no aL2h.b (left - (aL0.length) - (aL1.length)) _ (by first | rfl | simp) (by omega) (by omega)).mono ?_
  rintro e w3 ⟨rfl, b3⟩
  clear cxa_0 cxa_1 cxa_2 fxa_0 fxa_1 fxa_2 l_xa_0
  have z3 := b3.size
  try simp only [World.size_alloc, World.size_setCell, size_drew] at z3
  have B3 : Below w.heap.size w w3 := Below.t b3
  have xa_ : Box w3 (w.heap.size) #[(.slice aA0 an0 ac0), (.slice aA1 an1 ac1), (.slice aA2 an2 ac2)] 81 := xa.below b3 (by first | omega | (simp [size_drew]; done) | (simp [size_drew]; omega))
  clear xa; have xa := xa_; clear xa_
  go_wp2
  go_ret
  refine ⟨rfl, ?_⟩
  repeat (with_reducible (first | assumption | exact Below.refl _ _ | refine Below.alloc ?_ (by first | omega | (simp; done) | (simp; omega)) _ | refine Below.setCell ?_ (by first | omega | (simp; done) | (simp; omega)) _ | refine Below.drew ?_ | refine below_drewN ?_ _))
set_option maxRecDepth 100000 in
set_option maxHeartbeats 1000000 in
theorem szCircuit_yes {aA0 : Option Addr} {an0 ac0 : Nat} {aL0 : List (Int × Int × Int)} {aA1 : Option Addr} {an1 ac1 : Nat} {aL1 : List Int} {w : World} (aL0h : RdG0 w (.slice aA0 an0 ac0) aL0) (aL1h : Rd0 w (.slice aA1 an1 ac1) aL1) (left : Nat) (K : Int) (hK : K = left) (hleft : left ≤ 1048576) (hle : aL0.length + aL1.length ≤ left) :
    Calls Try.prog 47 #[.agg #[(.slice aA0 an0 ac0), (.slice aA1 an1 ac1)], .int .i64 K] w fun e w' => e = .returned (.int .i64 ((left - (aL0.length + aL1.length) : Nat) : Int)) ∧ Below w.heap.size w w' := by
  subst hK
  go_enter Try.func47, Try.ntmps47
  go_wp2_with fail
  refine (szGateS_yes aL0h.b (left) _ (by first | rfl | simp) (by omega) (by omega)).mono ?_
  rintro e w1 ⟨rfl, b1⟩
  have z1 := b1.size
  try simp only [World.size_alloc, World.size_setCell, size_drew] at z1
  have B1 : Below w.heap.size w w1 := Below.t b1
  have xa_ : Box w1 (w.heap.size) #[(.slice aA0 an0 ac0), (.slice aA1 an1 ac1)] 63 := (Box.new (g := w.heap.size) _ #[(.slice aA0 an0 ac0), (.slice aA1 an1 ac1)] 63 (by simp)).below b1 (by first | omega | (simp [size_drew]; done) | (simp [size_drew]; omega))
  have xa := xa_; clear xa_
  obtain ⟨cxa_0, cxa_1, fxa_0, fxa_1⟩ := xa.two
  have l_xa_0 : w.heap.size < w1.heap.size := by omega
  go_wp2_with fail
  refine (szIntS_yes aL1h.b (left - (aL0.length)) _ (by first | rfl | simp) (by omega) (by omega)).mono ?_
  rintro e w2 ⟨rfl, b2⟩
  clear cxa_0 cxa_1 fxa_0 fxa_1 l_xa_0
  have z2 := b2.size
  try simp only [World.size_alloc, World.size_setCell, size_drew] at z2
  have B2 : Below w.heap.size w w2 := Below.t b2
  have xa_ : Box w2 (w.heap.size) #[(.slice aA0 an0 ac0), (.slice aA1 an1 ac1)] 63 := xa.below b2 (by first | omega | (simp [size_drew]; done) | (simp [size_drew]; omega))
  clear xa; have xa := xa_; clear xa_
  go_wp2
  go_ret
  refine ⟨ret_int (by omega), ?_⟩
  repeat (with_reducible (first | assumption | exact Below.refl _ _ | refine Below.alloc ?_ (by first | omega | (simp; done) | (simp; omega)) _ | refine Below.setCell ?_ (by first | omega | (simp; done) | (simp; omega)) _ | refine Below.drew ?_ | refine below_drewN ?_ _))
set_option maxRecDepth 100000 in
set_option maxHeartbeats 1000000 in
theorem szCircuit_no {aA0 : Option Addr} {an0 ac0 : Nat} {aL0 : List (Int × Int × Int)} {aA1 : Option Addr} {an1 ac1 : Nat} {aL1 : List Int} {w : World} (aL0h : RdG0 w (.slice aA0 an0 ac0) aL0) (aL1h : Rd0 w (.slice aA1 an1 ac1) aL1) (left : Nat) (K : Int) (hK : K = left) (hleft : left ≤ 1048576) (hle : ¬ aL0.length + aL1.length ≤ left) :
    Calls Try.prog 47 #[.agg #[(.slice aA0 an0 ac0), (.slice aA1 an1 ac1)], .int .i64 K] w fun e w' => e = .returned (.int .i64 (-1)) ∧ Below w.heap.size w w' := by
  subst hK
  by_cases q0 : aL0.length ≤ left
  rotate_left
  · go_enter Try.func47, Try.ntmps47
    go_wp2_with fail
    refine (szGateS_no aL0h.b (left) _ (by first | rfl | simp) (by omega) (by omega)).mono ?_
    rintro e w1 ⟨rfl, b1⟩
    have z1 := b1.size
    try simp only [World.size_alloc, World.size_setCell, size_drew] at z1
    have B1 : Below w.heap.size w w1 := Below.t b1
    have xa_ : Box w1 (w.heap.size) #[(.slice aA0 an0 ac0), (.slice aA1 an1 ac1)] 63 := (Box.new (g := w.heap.size) _ #[(.slice aA0 an0 ac0), (.slice aA1 an1 ac1)] 63 (by simp)).below b1 (by first | omega | (simp [size_drew]; done) | (simp [size_drew]; omega))
    have xa := xa_; clear xa_
    go_wp2
    go_ret
    refine ⟨rfl, ?_⟩
    repeat (with_reducible (first | assumption | exact Below.refl _ _ | refine Below.alloc ?_ (by first | omega | (simp; done) | (simp; omega)) _ | refine Below.setCell ?_ (by first | omega | (simp; done) | (simp; omega)) _ | refine Below.drew ?_ | refine below_drewN ?_ _))
  go_enter Try.func47, Try.ntmps47
  go_wp2_with fail
  refine (szGateS_yes aL0h.b (left) _ (by first | rfl | simp) (by omega) (by omega)).mono ?_
  rintro e w1 ⟨rfl, b1⟩
  have z1 := b1.size
  try simp only [World.size_alloc, World.size_setCell, size_drew] at z1
  have B1 : Below w.heap.size w w1 := Below.t b1
  have xa_ : Box w1 (w.heap.size) #[(.slice aA0 an0 ac0), (.slice aA1 an1 ac1)] 63 := (Box.new (g := w.heap.size) _ #[(.slice aA0 an0 ac0), (.slice aA1 an1 ac1)] 63 (by simp)).below b1 (by first | omega | (simp [size_drew]; done) | (simp [size_drew]; omega))
  have xa := xa_; clear xa_
  obtain ⟨cxa_0, cxa_1, fxa_0, fxa_1⟩ := xa.two
  have l_xa_0 : w.heap.size < w1.heap.size := by omega
  go_wp2_with fail
  refine (szIntS_no aL1h.b (left - (aL0.length)) _ (by first | rfl | simp) (by omega) (by omega)).mono ?_
  rintro e w2 ⟨rfl, b2⟩
  clear cxa_0 cxa_1 fxa_0 fxa_1 l_xa_0
  have z2 := b2.size
  try simp only [World.size_alloc, World.size_setCell, size_drew] at z2
  have B2 : Below w.heap.size w w2 := Below.t b2
  have xa_ : Box w2 (w.heap.size) #[(.slice aA0 an0 ac0), (.slice aA1 an1 ac1)] 63 := xa.below b2 (by first | omega | (simp [size_drew]; done) | (simp [size_drew]; omega))
  clear xa; have xa := xa_; clear xa_
  go_wp2
  go_ret
  refine ⟨rfl, ?_⟩
  repeat (with_reducible (first | assumption | exact Below.refl _ _ | refine Below.alloc ?_ (by first | omega | (simp; done) | (simp; omega)) _ | refine Below.setCell ?_ (by first | omega | (simp; done) | (simp; omega)) _ | refine Below.drew ?_ | refine below_drewN ?_ _))
end Go.Proofs.Ytodnahpegecpiaa

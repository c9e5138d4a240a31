/- Contracts of the statements' helpers over structs: to, eq, mark, held. Printed by kinds.py. -/
import Derived.Test.YtllnnbmgdbinnaaHl
namespace Go.Proofs.Ytllnnbmgdbinnaa
set_option linter.unusedSimpArgs false
set_option linter.unusedVariables false
open Go.RowKit
set_option maxRecDepth 100000 in
set_option maxHeartbeats 1000000 in
theorem toTape_L {w : World} (aI0 : Int) (aI1 : Int) :
    Calls Try.prog 47 #[.agg #[.int .i64 aI0, .int .i64 aI1]] w fun e w' => e = .returned (.agg #[.int .i64 aI0, .int .i64 aI1]) ∧ Below w.heap.size w w' := by
  go_enter Try.func47, Try.ntmps47
  go_wp2
  refine bodyPost_ret (v := .agg #[.int .i64 aI0, .int .i64 aI1]) (by simp [results, Try.results47, go_sem]) rfl ⟨rfl, ?_⟩
  repeat (first | exact Below.refl _ _ | refine Below.alloc ?_ (by first | omega | (simp; done) | (simp; omega)) _ | refine Below.setCell ?_ (by first | omega | (simp; done) | (simp; omega)) _ | refine Below.drew ?_ | refine below_drewN ?_ _ | refine Below.trans ?_ (hb30.mono (by first | omega | (simp; done) | (simp; omega))) | refine Below.trans ?_ (hb29.mono (by first | omega | (simp; done) | (simp; omega))) | refine Below.trans ?_ (hb28.mono (by first | omega | (simp; done) | (simp; omega))) | refine Below.trans ?_ (hb27.mono (by first | omega | (simp; done) | (simp; omega))) | refine Below.trans ?_ (hb26.mono (by first | omega | (simp; done) | (simp; omega))) | refine Below.trans ?_ (hb25.mono (by first | omega | (simp; done) | (simp; omega))) | refine Below.trans ?_ (hb24.mono (by first | omega | (simp; done) | (simp; omega))) | refine Below.trans ?_ (hb23.mono (by first | omega | (simp; done) | (simp; omega))) | refine Below.trans ?_ (hb22.mono (by first | omega | (simp; done) | (simp; omega))) | refine Below.trans ?_ (hb21.mono (by first | omega | (simp; done) | (simp; omega))) | refine Below.trans ?_ (hb20.mono (by first | omega | (simp; done) | (simp; omega))) | refine Below.trans ?_ (hb19.mono (by first | omega | (simp; done) | (simp; omega))) | refine Below.trans ?_ (hb18.mono (by first | omega | (simp; done) | (simp; omega))) | refine Below.trans ?_ (hb17.mono (by first | omega | (simp; done) | (simp; omega))) | refine Below.trans ?_ (hb16.mono (by first | omega | (simp; done) | (simp; omega))) | refine Below.trans ?_ (hb15.mono (by first | omega | (simp; done) | (simp; omega))) | refine Below.trans ?_ (hb14.mono (by first | omega | (simp; done) | (simp; omega))) | refine Below.trans ?_ (hb13.mono (by first | omega | (simp; done) | (simp; omega))) | refine Below.trans ?_ (hb12.mono (by first | omega | (simp; done) | (simp; omega))) | refine Below.trans ?_ (hb11.mono (by first | omega | (simp; done) | (simp; omega))) | refine Below.trans ?_ (hb10.mono (by first | omega | (simp; done) | (simp; omega))) | refine Below.trans ?_ (hb9.mono (by first | omega | (simp; done) | (simp; omega))) | refine Below.trans ?_ (hb8.mono (by first | omega | (simp; done) | (simp; omega))) | refine Below.trans ?_ (hb7.mono (by first | omega | (simp; done) | (simp; omega))) | refine Below.trans ?_ (hb6.mono (by first | omega | (simp; done) | (simp; omega))) | refine Below.trans ?_ (hb5.mono (by first | omega | (simp; done) | (simp; omega))) | refine Below.trans ?_ (hb4.mono (by first | omega | (simp; done) | (simp; omega))) | refine Below.trans ?_ (hb3.mono (by first | omega | (simp; done) | (simp; omega))) | refine Below.trans ?_ (hb2.mono (by first | omega | (simp; done) | (simp; omega))) | refine Below.trans ?_ (hb1.mono (by first | omega | (simp; done) | (simp; omega))))
set_option maxRecDepth 100000 in
set_option maxHeartbeats 1000000 in
theorem eqTape_L {w : World} (aI0 : Int) (aI1 : Int) :
    Calls Try.prog 49 #[.agg #[.int .i64 aI0, .int .i64 aI1], .agg #[.int .i64 aI0, .int .i64 aI1]] w fun e w' => e = .returned (.bool true) ∧ Below w.heap.size w w' := by
  go_enter Try.func49, Try.ntmps49
  go_wp2
  go_ret
  refine ⟨rfl, ?_⟩
  repeat (with_reducible (first | assumption | exact Below.refl _ _ | refine Below.alloc ?_ (by first | omega | (simp; done) | (simp; omega)) _ | refine Below.setCell ?_ (by first | omega | (simp; done) | (simp; omega)) _ | refine Below.drew ?_ | refine below_drewN ?_ _))
set_option maxRecDepth 100000 in
set_option maxHeartbeats 1000000 in
theorem toOpening_L {w : World} (aI0 : Int) (aI1 : Int) :
    Calls Try.prog 81 #[.agg #[.int .i64 aI0, .int .i64 aI1]] w fun e w' => e = .returned (.agg #[.int .i64 aI0, .int .i64 aI1]) ∧ Below w.heap.size w w' := by
  go_enter Try.func81, Try.ntmps81
  go_wp2
  refine bodyPost_ret (v := .agg #[.int .i64 aI0, .int .i64 aI1]) (by simp [results, Try.results81, go_sem]) rfl ⟨rfl, ?_⟩
  repeat (first | exact Below.refl _ _ | refine Below.alloc ?_ (by first | omega | (simp; done) | (simp; omega)) _ | refine Below.setCell ?_ (by first | omega | (simp; done) | (simp; omega)) _ | refine Below.drew ?_ | refine below_drewN ?_ _ | refine Below.trans ?_ (hb30.mono (by first | omega | (simp; done) | (simp; omega))) | refine Below.trans ?_ (hb29.mono (by first | omega | (simp; done) | (simp; omega))) | refine Below.trans ?_ (hb28.mono (by first | omega | (simp; done) | (simp; omega))) | refine Below.trans ?_ (hb27.mono (by first | omega | (simp; done) | (simp; omega))) | refine Below.trans ?_ (hb26.mono (by first | omega | (simp; done) | (simp; omega))) | refine Below.trans ?_ (hb25.mono (by first | omega | (simp; done) | (simp; omega))) | refine Below.trans ?_ (hb24.mono (by first | omega | (simp; done) | (simp; omega))) | refine Below.trans ?_ (hb23.mono (by first | omega | (simp; done) | (simp; omega))) | refine Below.trans ?_ (hb22.mono (by first | omega | (simp; done) | (simp; omega))) | refine Below.trans ?_ (hb21.mono (by first | omega | (simp; done) | (simp; omega))) | refine Below.trans ?_ (hb20.mono (by first | omega | (simp; done) | (simp; omega))) | refine Below.trans ?_ (hb19.mono (by first | omega | (simp; done) | (simp; omega))) | refine Below.trans ?_ (hb18.mono (by first | omega | (simp; done) | (simp; omega))) | refine Below.trans ?_ (hb17.mono (by first | omega | (simp; done) | (simp; omega))) | refine Below.trans ?_ (hb16.mono (by first | omega | (simp; done) | (simp; omega))) | refine Below.trans ?_ (hb15.mono (by first | omega | (simp; done) | (simp; omega))) | refine Below.trans ?_ (hb14.mono (by first | omega | (simp; done) | (simp; omega))) | refine Below.trans ?_ (hb13.mono (by first | omega | (simp; done) | (simp; omega))) | refine Below.trans ?_ (hb12.mono (by first | omega | (simp; done) | (simp; omega))) | refine Below.trans ?_ (hb11.mono (by first | omega | (simp; done) | (simp; omega))) | refine Below.trans ?_ (hb10.mono (by first | omega | (simp; done) | (simp; omega))) | refine Below.trans ?_ (hb9.mono (by first | omega | (simp; done) | (simp; omega))) | refine Below.trans ?_ (hb8.mono (by first | omega | (simp; done) | (simp; omega))) | refine Below.trans ?_ (hb7.mono (by first | omega | (simp; done) | (simp; omega))) | refine Below.trans ?_ (hb6.mono (by first | omega | (simp; done) | (simp; omega))) | refine Below.trans ?_ (hb5.mono (by first | omega | (simp; done) | (simp; omega))) | refine Below.trans ?_ (hb4.mono (by first | omega | (simp; done) | (simp; omega))) | refine Below.trans ?_ (hb3.mono (by first | omega | (simp; done) | (simp; omega))) | refine Below.trans ?_ (hb2.mono (by first | omega | (simp; done) | (simp; omega))) | refine Below.trans ?_ (hb1.mono (by first | omega | (simp; done) | (simp; omega))))
set_option maxRecDepth 100000 in
set_option maxHeartbeats 1000000 in
theorem eqOpening_L {w : World} (aI0 : Int) (aI1 : Int) :
    Calls Try.prog 65 #[.agg #[.int .i64 aI0, .int .i64 aI1], .agg #[.int .i64 aI0, .int .i64 aI1]] w fun e w' => e = .returned (.bool true) ∧ Below w.heap.size w w' := by
  go_enter Try.func65, Try.ntmps65
  go_wp2
  go_ret
  refine ⟨rfl, ?_⟩
  repeat (with_reducible (first | assumption | exact Below.refl _ _ | refine Below.alloc ?_ (by first | omega | (simp; done) | (simp; omega)) _ | refine Below.setCell ?_ (by first | omega | (simp; done) | (simp; omega)) _ | refine Below.drew ?_ | refine below_drewN ?_ _))
set_option maxRecDepth 100000 in
set_option maxHeartbeats 1000000 in
theorem toKeys_L {aA1 : Option Addr} {an1 ac1 : Nat} {aL1 : List Int} {w : World} (aI0 : Int) (h : RdL w [((.slice aA1 an1 ac1), .ints aL1)]) (aL1n : aL1.length ≤ 1048576) :
    Calls Try.prog 35 #[.agg #[.int .i64 aI0, (.slice aA1 an1 ac1)]] w fun e w' => ∃ cA1 cn1 cc1, e = .returned (.agg #[.int .i64 aI0, (.slice cA1 cn1 cc1)]) ∧ OwnL w' w.heap.size w'.heap.size [((.slice cA1 cn1 cc1), .ints aL1)] ∧ Below w.heap.size w w' := by
  go_enter Try.func35, Try.ntmps35
  go_wp2_with fail
  refine (toIntS_L (RdL.below (ls := [((.slice aA1 an1 ac1), .ints aL1)]) (RdL.sub h (by simp)) (by repeat (with_reducible (first | assumption | exact Below.refl _ _ | refine Below.alloc ?_ (by first | omega | (simp; done) | (simp; omega)) _ | refine Below.setCell ?_ (by first | omega | (simp; done) | (simp; omega)) _ | refine Below.drew ?_ | refine below_drewN ?_ _)))) aL1n).mono ?_
  rintro e w1 ⟨cA1, cn1, cc1, rfl, r1, b1⟩
  have z1 := b1.size
  try simp only [World.size_alloc, World.size_setCell, size_drew] at z1
  have B1 : Below w.heap.size w w1 := Below.trans (b := _) (by repeat (with_reducible (first | assumption | exact Below.refl _ _ | refine Below.alloc ?_ (by first | omega | (simp; done) | (simp; omega)) _ | refine Below.setCell ?_ (by first | omega | (simp; done) | (simp; omega)) _ | refine Below.drew ?_ | refine below_drewN ?_ _))) (b1.mono (by first | omega | (simp [size_drew]; done) | (simp [size_drew]; omega)))
  have xa_ : Box w1 (w.heap.size) #[.int .i64 aI0, (.slice aA1 an1 ac1)] 30 := (((Box.new (g := w.heap.size) _ #[.int .i64 aI0, (.slice aA1 an1 ac1)] 30 (by simp)).alloc _).alloc _).below b1 (by first | omega | (simp [size_drew]; done) | (simp [size_drew]; omega))
  have xa := xa_; clear xa_
  have xr_ : Box w1 (w.heap.size + 1) #[.int .i64 0, .slice none 0 0] 33 := ((Box.new (g := w.heap.size + 1) _ #[.int .i64 0, .slice none 0 0] 33 (by simp)).alloc _).below b1 (by first | omega | (simp [size_drew]; done) | (simp [size_drew]; omega))
  have xr := xr_; clear xr_
  have xo_ : Box w1 (w.heap.size + 1 + 1) #[.int .i64 aI0, .slice none 0 0] 33 := (Box.new (g := w.heap.size + 1 + 1) _ #[.int .i64 aI0, .slice none 0 0] 33 (by simp)).below b1 (by first | omega | (simp [size_drew]; done) | (simp [size_drew]; omega))
  have xo := xo_; clear xo_
  try simp only [World.size_alloc, World.size_setCell, size_drew] at r1
  obtain ⟨cxo_0, cxo_1, fxo_0, fxo_1⟩ := xo.two
  have l_xo_0 : w.heap.size + 1 + 1 < w1.heap.size := by omega
  obtain ⟨cxa_0, cxa_1, fxa_0, fxa_1⟩ := xa.two
  have l_xa_0 : w.heap.size < w1.heap.size := by omega
  obtain ⟨cxr_0, cxr_1, fxr_0, fxr_1⟩ := xr.two
  have l_xr_0 : w.heap.size + 1 < w1.heap.size := by omega
  go_wp2
  refine bodyPost_ret (v := .agg #[.int .i64 aI0, (.slice cA1 cn1 cc1)]) ?_ rfl ⟨cA1, cn1, cc1, rfl, ?_, ?_⟩
  · simp [results, Try.results35, go_sem, cxo_0, cxo_1, fxo_0, fxo_1, l_xo_0, cxa_0, cxa_1, fxa_0, fxa_1, l_xa_0, cxr_0, cxr_1, fxr_0, fxr_1, l_xr_0]
  · have R := r1
    skip
    refine OwnL.widen (lo := w.heap.size + 1 + 1 + 1) (hi := w1.heap.size) ?_ (by omega)
    repeat (with_reducible (first | exact R | exact OwnL.mono R (by omega) (by simp) (by simp) | refine OwnL.alloc ?_ _ | refine OwnL.setBox ?_ ?_ | refine OwnL.drew ?_))
    all_goals omega
  · repeat (with_reducible (first | assumption | exact Below.refl _ _ | refine Below.alloc ?_ (by first | omega | (simp; done) | (simp; omega)) _ | refine Below.setCell ?_ (by first | omega | (simp; done) | (simp; omega)) _ | refine Below.drew ?_ | refine below_drewN ?_ _))
set_option maxRecDepth 100000 in
set_option maxHeartbeats 1000000 in
theorem eqKeys_L {aA1 : Option Addr} {an1 ac1 : Nat} {aL1 : List Int} {cA1 : Option Addr} {cn1 cc1 : Nat} {w : World} (aI0 : Int) (h : RdL w [((.slice aA1 an1 ac1), .ints aL1)]) (h2 : RdL w [((.slice cA1 cn1 cc1), .ints aL1)]) (aL1n : aL1.length ≤ 1048576) :
    Calls Try.prog 37 #[.agg #[.int .i64 aI0, (.slice aA1 an1 ac1)], .agg #[.int .i64 aI0, (.slice cA1 cn1 cc1)]] w fun e w' => e = .returned (.bool true) ∧ Below w.heap.size w w' := by
  go_enter Try.func37, Try.ntmps37
  go_wp2_with fail
  refine (eqIntS_L (RdL.below (ls := [((.slice aA1 an1 ac1), .ints aL1)]) (RdL.sub h (by simp)) (by repeat (with_reducible (first | assumption | exact Below.refl _ _ | refine Below.alloc ?_ (by first | omega | (simp; done) | (simp; omega)) _ | refine Below.setCell ?_ (by first | omega | (simp; done) | (simp; omega)) _ | refine Below.drew ?_ | refine below_drewN ?_ _)))) (RdL.below (ls := [((.slice cA1 cn1 cc1), .ints aL1)]) (RdL.sub h2 (by simp)) (by repeat (with_reducible (first | assumption | exact Below.refl _ _ | refine Below.alloc ?_ (by first | omega | (simp; done) | (simp; omega)) _ | refine Below.setCell ?_ (by first | omega | (simp; done) | (simp; omega)) _ | refine Below.drew ?_ | refine below_drewN ?_ _)))) aL1n).mono ?_
  rintro e w1 ⟨rfl, b1⟩
  have z1 := b1.size
  try simp only [World.size_alloc, World.size_setCell, size_drew] at z1
  have B1 : Below w.heap.size w w1 := Below.trans (b := _) (by repeat (with_reducible (first | assumption | exact Below.refl _ _ | refine Below.alloc ?_ (by first | omega | (simp; done) | (simp; omega)) _ | refine Below.setCell ?_ (by first | omega | (simp; done) | (simp; omega)) _ | refine Below.drew ?_ | refine below_drewN ?_ _))) (b1.mono (by first | omega | (simp [size_drew]; done) | (simp [size_drew]; omega)))
  have xa_ : Box w1 (w.heap.size) #[.int .i64 aI0, (.slice aA1 an1 ac1)] 33 := ((Box.new (g := w.heap.size) _ #[.int .i64 aI0, (.slice aA1 an1 ac1)] 33 (by simp)).alloc _).below b1 (by first | omega | (simp [size_drew]; done) | (simp [size_drew]; omega))
  have xa := xa_; clear xa_
  have xc_ : Box w1 (w.heap.size + 1) #[.int .i64 aI0, (.slice cA1 cn1 cc1)] 33 := (Box.new (g := w.heap.size + 1) _ #[.int .i64 aI0, (.slice cA1 cn1 cc1)] 33 (by simp)).below b1 (by first | omega | (simp [size_drew]; done) | (simp [size_drew]; omega))
  have xc := xc_; clear xc_
  obtain ⟨cxa_0, cxa_1, fxa_0, fxa_1⟩ := xa.two
  have l_xa_0 : w.heap.size < w1.heap.size := by omega
  obtain ⟨cxc_0, cxc_1, fxc_0, fxc_1⟩ := xc.two
  have l_xc_0 : w.heap.size + 1 < w1.heap.size := by omega
  go_wp2
  go_ret
  refine ⟨rfl, ?_⟩
  repeat (with_reducible (first | assumption | exact Below.refl _ _ | refine Below.alloc ?_ (by first | omega | (simp; done) | (simp; omega)) _ | refine Below.setCell ?_ (by first | omega | (simp; done) | (simp; omega)) _ | refine Below.drew ?_ | refine below_drewN ?_ _))
set_option maxRecDepth 100000 in
set_option maxHeartbeats 1000000 in
theorem toAuth_L {aA0 : Option Addr} {an0 ac0 : Nat} {aL0 : List Int} {aA1 : Option Addr} {an1 ac1 : Nat} {aL1 : List Int} {w : World} (h : RdL w [((.slice aA0 an0 ac0), .ints aL0), ((.slice aA1 an1 ac1), .ints aL1)]) (aL0n : aL0.length ≤ 1048576) (aL1n : aL1.length ≤ 1048576) :
    Calls Try.prog 42 #[.agg #[(.slice aA0 an0 ac0), (.slice aA1 an1 ac1)]] w fun e w' => ∃ cA0 cn0 cc0 cA1 cn1 cc1, e = .returned (.agg #[(.slice cA0 cn0 cc0), (.slice cA1 cn1 cc1)]) ∧ OwnL w' w.heap.size w'.heap.size [((.slice cA0 cn0 cc0), .ints aL0), ((.slice cA1 cn1 cc1), .ints aL1)] ∧ Below w.heap.size w w' := by
  go_enter Try.func42, Try.ntmps42
  go_wp2_with fail
  refine (toIntS_L (RdL.below (ls := [((.slice aA0 an0 ac0), .ints aL0)]) (RdL.sub h (by simp)) (by repeat (with_reducible (first | assumption | exact Below.refl _ _ | refine Below.alloc ?_ (by first | omega | (simp; done) | (simp; omega)) _ | refine Below.setCell ?_ (by first | omega | (simp; done) | (simp; omega)) _ | refine Below.drew ?_ | refine below_drewN ?_ _)))) aL0n).mono ?_
  rintro e w1 ⟨cA0, cn0, cc0, rfl, r0, b1⟩
  have z1 := b1.size
  try simp only [World.size_alloc, World.size_setCell, size_drew] at z1
  have B1 : Below w.heap.size w w1 := Below.trans (b := _) (by repeat (with_reducible (first | assumption | exact Below.refl _ _ | refine Below.alloc ?_ (by first | omega | (simp; done) | (simp; omega)) _ | refine Below.setCell ?_ (by first | omega | (simp; done) | (simp; omega)) _ | refine Below.drew ?_ | refine below_drewN ?_ _))) (b1.mono (by first | omega | (simp [size_drew]; done) | (simp [size_drew]; omega)))
  have xa_ : Box w1 (w.heap.size) #[(.slice aA0 an0 ac0), (.slice aA1 an1 ac1)] 44 := (((Box.new (g := w.heap.size) _ #[(.slice aA0 an0 ac0), (.slice aA1 an1 ac1)] 44 (by simp)).alloc _).alloc _).below b1 (by first | omega | (simp [size_drew]; done) | (simp [size_drew]; omega))
  have xa := xa_; clear xa_
  have xr_ : Box w1 (w.heap.size + 1) #[.slice none 0 0, .slice none 0 0] 38 := ((Box.new (g := w.heap.size + 1) _ #[.slice none 0 0, .slice none 0 0] 38 (by simp)).alloc _).below b1 (by first | omega | (simp [size_drew]; done) | (simp [size_drew]; omega))
  have xr := xr_; clear xr_
  have xo_ : Box w1 (w.heap.size + 1 + 1) #[.slice none 0 0, .slice none 0 0] 38 := (Box.new (g := w.heap.size + 1 + 1) _ #[.slice none 0 0, .slice none 0 0] 38 (by simp)).below b1 (by first | omega | (simp [size_drew]; done) | (simp [size_drew]; omega))
  have xo := xo_; clear xo_
  try simp only [World.size_alloc, World.size_setCell, size_drew] at r0
  obtain ⟨cxo_0, cxo_1, fxo_0, fxo_1⟩ := xo.two
  have l_xo_0 : w.heap.size + 1 + 1 < w1.heap.size := by omega
  obtain ⟨cxa_0, cxa_1, fxa_0, fxa_1⟩ := xa.two
  have l_xa_0 : w.heap.size < w1.heap.size := by omega
  go_wp2_with fail
  refine (toIntS_L (RdL.below (ls := [((.slice aA1 an1 ac1), .ints aL1)]) (RdL.sub h (by simp)) (by repeat (with_reducible (first | assumption | exact Below.refl _ _ | refine Below.alloc ?_ (by first | omega | (simp; done) | (simp; omega)) _ | refine Below.setCell ?_ (by first | omega | (simp; done) | (simp; omega)) _ | refine Below.drew ?_ | refine below_drewN ?_ _)))) aL1n).mono ?_
  rintro e w2 ⟨cA1, cn1, cc1, rfl, r1, b2⟩
  clear cxo_0 cxo_1 fxo_0 fxo_1 l_xo_0 cxa_0 cxa_1 fxa_0 fxa_1 l_xa_0
  have z2 := b2.size
  try simp only [World.size_alloc, World.size_setCell, size_drew] at z2
  have B2 : Below w.heap.size w w2 := Below.trans (b := _) (by repeat (with_reducible (first | assumption | exact Below.refl _ _ | refine Below.alloc ?_ (by first | omega | (simp; done) | (simp; omega)) _ | refine Below.setCell ?_ (by first | omega | (simp; done) | (simp; omega)) _ | refine Below.drew ?_ | refine below_drewN ?_ _))) (b2.mono (by first | omega | (simp [size_drew]; done) | (simp [size_drew]; omega)))
  have r0_ := (r0.setBox (by omega)).below b2
  clear r0; have r0 := r0_; clear r0_
  have xa_ : Box w2 (w.heap.size) #[(.slice aA0 an0 ac0), (.slice aA1 an1 ac1)] 44 := (xa.far (by omega)).below b2 (by first | omega | (simp [size_drew]; done) | (simp [size_drew]; omega))
  clear xa; have xa := xa_; clear xa_
  have xr_ : Box w2 (w.heap.size + 1) #[.slice none 0 0, .slice none 0 0] 38 := (xr.far (by omega)).below b2 (by first | omega | (simp [size_drew]; done) | (simp [size_drew]; omega))
  clear xr; have xr := xr_; clear xr_
  have xo_ : Box w2 (w.heap.size + 1 + 1) #[(.slice cA0 cn0 cc0), .slice none 0 0] 38 := (xo.setAt (i := 0) (v := (.slice cA0 cn0 cc0)) (ds := #[(.slice cA0 cn0 cc0), .slice none 0 0]) (by simp)).below b2 (by first | omega | (simp [size_drew]; done) | (simp [size_drew]; omega))
  clear xo; have xo := xo_; clear xo_
  try simp only [World.size_alloc, World.size_setCell, size_drew] at r1
  obtain ⟨cxo_0, cxo_1, fxo_0, fxo_1⟩ := xo.two
  have l_xo_0 : w.heap.size + 1 + 1 < w2.heap.size := by omega
  obtain ⟨cxa_0, cxa_1, fxa_0, fxa_1⟩ := xa.two
  have l_xa_0 : w.heap.size < w2.heap.size := by omega
  obtain ⟨cxr_0, cxr_1, fxr_0, fxr_1⟩ := xr.two
  have l_xr_0 : w.heap.size + 1 < w2.heap.size := by omega
  go_wp2
  refine bodyPost_ret (v := .agg #[(.slice cA0 cn0 cc0), (.slice cA1 cn1 cc1)]) ?_ rfl ⟨cA0, cn0, cc0, cA1, cn1, cc1, rfl, ?_, ?_⟩
  · simp [results, Try.results42, go_sem, cxo_0, cxo_1, fxo_0, fxo_1, l_xo_0, cxa_0, cxa_1, fxa_0, fxa_1, l_xa_0, cxr_0, cxr_1, fxr_0, fxr_1, l_xr_0]
  · have R := (OwnL.then r0 r1 (by omega))
    simp only [List.cons_append, List.nil_append] at R
    refine OwnL.widen (lo := w.heap.size + 1 + 1 + 1) (hi := w2.heap.size) ?_ (by omega)
    repeat (with_reducible (first | exact R | refine OwnL.alloc ?_ _ | refine OwnL.setBox ?_ ?_ | refine OwnL.drew ?_))
    all_goals omega
  · repeat (with_reducible (first | assumption | exact Below.refl _ _ | refine Below.alloc ?_ (by first | omega | (simp; done) | (simp; omega)) _ | refine Below.setCell ?_ (by first | omega | (simp; done) | (simp; omega)) _ | refine Below.drew ?_ | refine below_drewN ?_ _))
set_option maxRecDepth 100000 in
set_option maxHeartbeats 1000000 in
theorem eqAuth_L {aA0 : Option Addr} {an0 ac0 : Nat} {aL0 : List Int} {aA1 : Option Addr} {an1 ac1 : Nat} {aL1 : List Int} {cA0 : Option Addr} {cn0 cc0 : Nat} {cA1 : Option Addr} {cn1 cc1 : Nat} {w : World} (h : RdL w [((.slice aA0 an0 ac0), .ints aL0), ((.slice aA1 an1 ac1), .ints aL1)]) (h2 : RdL w [((.slice cA0 cn0 cc0), .ints aL0), ((.slice cA1 cn1 cc1), .ints aL1)]) (aL0n : aL0.length ≤ 1048576) (aL1n : aL1.length ≤ 1048576) :
    Calls Try.prog 43 #[.agg #[(.slice aA0 an0 ac0), (.slice aA1 an1 ac1)], .agg #[(.slice cA0 cn0 cc0), (.slice cA1 cn1 cc1)]] w fun e w' => e = .returned (.bool true) ∧ Below w.heap.size w w' := by
  go_enter Try.func43, Try.ntmps43
  go_wp2_with fail
  refine (eqIntS_L (RdL.below (ls := [((.slice aA0 an0 ac0), .ints aL0)]) (RdL.sub h (by simp)) (by repeat (with_reducible (first | assumption | exact Below.refl _ _ | refine Below.alloc ?_ (by first | omega | (simp; done) | (simp; omega)) _ | refine Below.setCell ?_ (by first | omega | (simp; done) | (simp; omega)) _ | refine Below.drew ?_ | refine below_drewN ?_ _)))) (RdL.below (ls := [((.slice cA0 cn0 cc0), .ints aL0)]) (RdL.sub h2 (by simp)) (by repeat (with_reducible (first | assumption | exact Below.refl _ _ | refine Below.alloc ?_ (by first | omega | (simp; done) | (simp; omega)) _ | refine Below.setCell ?_ (by first | omega | (simp; done) | (simp; omega)) _ | refine Below.drew ?_ | refine below_drewN ?_ _)))) aL0n).mono ?_
  rintro e w1 ⟨rfl, b1⟩
  have z1 := b1.size
  try simp only [World.size_alloc, World.size_setCell, size_drew] at z1
  have B1 : Below w.heap.size w w1 := Below.trans (b := _) (by repeat (with_reducible (first | assumption | exact Below.refl _ _ | refine Below.alloc ?_ (by first | omega | (simp; done) | (simp; omega)) _ | refine Below.setCell ?_ (by first | omega | (simp; done) | (simp; omega)) _ | refine Below.drew ?_ | refine below_drewN ?_ _))) (b1.mono (by first | omega | (simp [size_drew]; done) | (simp [size_drew]; omega)))
  have xa_ : Box w1 (w.heap.size) #[(.slice aA0 an0 ac0), (.slice aA1 an1 ac1)] 38 := ((Box.new (g := w.heap.size) _ #[(.slice aA0 an0 ac0), (.slice aA1 an1 ac1)] 38 (by simp)).alloc _).below b1 (by first | omega | (simp [size_drew]; done) | (simp [size_drew]; omega))
  have xa := xa_; clear xa_
  have xc_ : Box w1 (w.heap.size + 1) #[(.slice cA0 cn0 cc0), (.slice cA1 cn1 cc1)] 38 := (Box.new (g := w.heap.size + 1) _ #[(.slice cA0 cn0 cc0), (.slice cA1 cn1 cc1)] 38 (by simp)).below b1 (by first | omega | (simp [size_drew]; done) | (simp [size_drew]; omega))
  have xc := xc_; clear xc_
  obtain ⟨cxa_0, cxa_1, fxa_0, fxa_1⟩ := xa.two
  have l_xa_0 : w.heap.size < w1.heap.size := by omega
  obtain ⟨cxc_0, cxc_1, fxc_0, fxc_1⟩ := xc.two
  have l_xc_0 : w.heap.size + 1 < w1.heap.size := by omega
  go_wp2_with fail
  refine (eqIntS_L (RdL.below (ls := [((.slice aA1 an1 ac1), .ints aL1)]) (RdL.sub h (by simp)) (by repeat (with_reducible (first | assumption | exact Below.refl _ _ | refine Below.alloc ?_ (by first | omega | (simp; done) | (simp; omega)) _ | refine Below.setCell ?_ (by first | omega | (simp; done) | (simp; omega)) _ | refine Below.drew ?_ | refine below_drewN ?_ _)))) (RdL.below (ls := [((.slice cA1 cn1 cc1), .ints aL1)]) (RdL.sub h2 (by simp)) (by repeat (with_reducible (first | assumption | exact Below.refl _ _ | refine Below.alloc ?_ (by first | omega | (simp; done) | (simp; omega)) _ | refine Below.setCell ?_ (by first | omega | (simp; done) | (simp; omega)) _ | refine Below.drew ?_ | refine below_drewN ?_ _)))) aL1n).mono ?_
  rintro e w2 ⟨rfl, b2⟩
  clear cxa_0 cxa_1 fxa_0 fxa_1 l_xa_0 cxc_0 cxc_1 fxc_0 fxc_1 l_xc_0
  have z2 := b2.size
  try simp only [World.size_alloc, World.size_setCell, size_drew] at z2
  have B2 : Below w.heap.size w w2 := Below.trans (b := _) (by repeat (with_reducible (first | assumption | exact Below.refl _ _ | refine Below.alloc ?_ (by first | omega | (simp; done) | (simp; omega)) _ | refine Below.setCell ?_ (by first | omega | (simp; done) | (simp; omega)) _ | refine Below.drew ?_ | refine below_drewN ?_ _))) (b2.mono (by first | omega | (simp [size_drew]; done) | (simp [size_drew]; omega)))
  have xa_ : Box w2 (w.heap.size) #[(.slice aA0 an0 ac0), (.slice aA1 an1 ac1)] 38 := xa.below b2 (by first | omega | (simp [size_drew]; done) | (simp [size_drew]; omega))
  clear xa; have xa := xa_; clear xa_
  have xc_ : Box w2 (w.heap.size + 1) #[(.slice cA0 cn0 cc0), (.slice cA1 cn1 cc1)] 38 := xc.below b2 (by first | omega | (simp [size_drew]; done) | (simp [size_drew]; omega))
  clear xc; have xc := xc_; clear xc_
  obtain ⟨cxa_0, cxa_1, fxa_0, fxa_1⟩ := xa.two
  have l_xa_0 : w.heap.size < w2.heap.size := by omega
  obtain ⟨cxc_0, cxc_1, fxc_0, fxc_1⟩ := xc.two
  have l_xc_0 : w.heap.size + 1 < w2.heap.size := by omega
  go_wp2
  go_ret
  refine ⟨rfl, ?_⟩
  repeat (with_reducible (first | assumption | exact Below.refl _ _ | refine Below.alloc ?_ (by first | omega | (simp; done) | (simp; omega)) _ | refine Below.setCell ?_ (by first | omega | (simp; done) | (simp; omega)) _ | refine Below.drew ?_ | refine below_drewN ?_ _))
set_option maxRecDepth 100000 in
set_option maxHeartbeats 1000000 in
theorem toTriple_L {aA0 : Option Addr} {an0 ac0 : Nat} {aL0 : List Int} {aA1 : Option Addr} {an1 ac1 : Nat} {aL1 : List Int} {aA2 : Option Addr} {an2 ac2 : Nat} {aL2 : List Int} {aA3 : Option Addr} {an3 ac3 : Nat} {aL3 : List Int} {aA4 : Option Addr} {an4 ac4 : Nat} {aL4 : List Int} {aA5 : Option Addr} {an5 ac5 : Nat} {aL5 : List Int} {w : World} (h : RdL w [((.slice aA0 an0 ac0), .ints aL0), ((.slice aA1 an1 ac1), .ints aL1), ((.slice aA2 an2 ac2), .ints aL2), ((.slice aA3 an3 ac3), .ints aL3), ((.slice aA4 an4 ac4), .ints aL4), ((.slice aA5 an5 ac5), .ints aL5)]) (aL0n : aL0.length ≤ 1048576) (aL1n : aL1.length ≤ 1048576) (aL2n : aL2.length ≤ 1048576) (aL3n : aL3.length ≤ 1048576) (aL4n : aL4.length ≤ 1048576) (aL5n : aL5.length ≤ 1048576) :
    Calls Try.prog 60 #[.agg #[(.slice aA0 an0 ac0), (.slice aA1 an1 ac1), (.slice aA2 an2 ac2), (.slice aA3 an3 ac3), (.slice aA4 an4 ac4), (.slice aA5 an5 ac5)]] w fun e w' => ∃ cA0 cn0 cc0 cA1 cn1 cc1 cA2 cn2 cc2 cA3 cn3 cc3 cA4 cn4 cc4 cA5 cn5 cc5, e = .returned (.agg #[(.slice cA0 cn0 cc0), (.slice cA1 cn1 cc1), (.slice cA2 cn2 cc2), (.slice cA3 cn3 cc3), (.slice cA4 cn4 cc4), (.slice cA5 cn5 cc5)]) ∧ OwnL w' w.heap.size w'.heap.size [((.slice cA0 cn0 cc0), .ints aL0), ((.slice cA1 cn1 cc1), .ints aL1), ((.slice cA2 cn2 cc2), .ints aL2), ((.slice cA3 cn3 cc3), .ints aL3), ((.slice cA4 cn4 cc4), .ints aL4), ((.slice cA5 cn5 cc5), .ints aL5)] ∧ Below w.heap.size w w' := by
  go_enter Try.func60, Try.ntmps60
  go_wp2_with fail
  refine (toAuth_L (RdL.below (ls := [((.slice aA0 an0 ac0), .ints aL0), ((.slice aA1 an1 ac1), .ints aL1)]) (RdL.sub h (by simp)) (by repeat (with_reducible (first | assumption | exact Below.refl _ _ | refine Below.alloc ?_ (by first | omega | (simp; done) | (simp; omega)) _ | refine Below.setCell ?_ (by first | omega | (simp; done) | (simp; omega)) _ | refine Below.drew ?_ | refine below_drewN ?_ _)))) aL0n aL1n).mono ?_
  rintro e w1 ⟨cA0, cn0, cc0, cA1, cn1, cc1, rfl, r0, b1⟩
  have z1 := b1.size
  try simp only [World.size_alloc, World.size_setCell, size_drew] at z1
  have B1 : Below w.heap.size w w1 := Below.trans (b := _) (by repeat (with_reducible (first | assumption | exact Below.refl _ _ | refine Below.alloc ?_ (by first | omega | (simp; done) | (simp; omega)) _ | refine Below.setCell ?_ (by first | omega | (simp; done) | (simp; omega)) _ | refine Below.drew ?_ | refine below_drewN ?_ _))) (b1.mono (by first | omega | (simp [size_drew]; done) | (simp [size_drew]; omega)))
  have xa_ : Box w1 (w.heap.size) #[(.slice aA0 an0 ac0), (.slice aA1 an1 ac1), (.slice aA2 an2 ac2), (.slice aA3 an3 ac3), (.slice aA4 an4 ac4), (.slice aA5 an5 ac5)] 64 := (((Box.new (g := w.heap.size) _ #[(.slice aA0 an0 ac0), (.slice aA1 an1 ac1), (.slice aA2 an2 ac2), (.slice aA3 an3 ac3), (.slice aA4 an4 ac4), (.slice aA5 an5 ac5)] 64 (by simp)).alloc _).alloc _).below b1 (by first | omega | (simp [size_drew]; done) | (simp [size_drew]; omega))
  have xa := xa_; clear xa_
  have xr_ : Box w1 (w.heap.size + 1) #[.slice none 0 0, .slice none 0 0, .slice none 0 0, .slice none 0 0, .slice none 0 0, .slice none 0 0] 68 := ((Box.new (g := w.heap.size + 1) _ #[.slice none 0 0, .slice none 0 0, .slice none 0 0, .slice none 0 0, .slice none 0 0, .slice none 0 0] 68 (by simp)).alloc _).below b1 (by first | omega | (simp [size_drew]; done) | (simp [size_drew]; omega))
  have xr := xr_; clear xr_
  have xo_ : Box w1 (w.heap.size + 1 + 1) #[.slice none 0 0, .slice none 0 0, .slice none 0 0, .slice none 0 0, .slice none 0 0, .slice none 0 0] 68 := (Box.new (g := w.heap.size + 1 + 1) _ #[.slice none 0 0, .slice none 0 0, .slice none 0 0, .slice none 0 0, .slice none 0 0, .slice none 0 0] 68 (by simp)).below b1 (by first | omega | (simp [size_drew]; done) | (simp [size_drew]; omega))
  have xo := xo_; clear xo_
  try simp only [World.size_alloc, World.size_setCell, size_drew] at r0
  obtain ⟨cxo_0, cxo_1, cxo_2, cxo_3, cxo_4, cxo_5, fxo_0, fxo_1, fxo_2, fxo_3, fxo_4, fxo_5⟩ := xo.six
  have l_xo_0 : w.heap.size + 1 + 1 < w1.heap.size := by omega
  obtain ⟨cxa_0, cxa_1, cxa_2, cxa_3, cxa_4, cxa_5, fxa_0, fxa_1, fxa_2, fxa_3, fxa_4, fxa_5⟩ := xa.six
  have l_xa_0 : w.heap.size < w1.heap.size := by omega
  go_wp2_with fail
  refine (toAuth_L (RdL.below (ls := [((.slice aA2 an2 ac2), .ints aL2), ((.slice aA3 an3 ac3), .ints aL3)]) (RdL.sub h (by simp)) (by repeat (with_reducible (first | assumption | exact Below.refl _ _ | refine Below.alloc ?_ (by first | omega | (simp; done) | (simp; omega)) _ | refine Below.setCell ?_ (by first | omega | (simp; done) | (simp; omega)) _ | refine Below.drew ?_ | refine below_drewN ?_ _)))) aL2n aL3n).mono ?_
  rintro e w2 ⟨cA2, cn2, cc2, cA3, cn3, cc3, rfl, r1, b2⟩
  clear cxo_0 cxo_1 cxo_2 cxo_3 cxo_4 cxo_5 fxo_0 fxo_1 fxo_2 fxo_3 fxo_4 fxo_5 l_xo_0 cxa_0 cxa_1 cxa_2 cxa_3 cxa_4 cxa_5 fxa_0 fxa_1 fxa_2 fxa_3 fxa_4 fxa_5 l_xa_0
  have z2 := b2.size
  try simp only [World.size_alloc, World.size_setCell, size_drew] at z2
  have B2 : Below w.heap.size w w2 := Below.trans (b := _) (by repeat (with_reducible (first | assumption | exact Below.refl _ _ | refine Below.alloc ?_ (by first | omega | (simp; done) | (simp; omega)) _ | refine Below.setCell ?_ (by first | omega | (simp; done) | (simp; omega)) _ | refine Below.drew ?_ | refine below_drewN ?_ _))) (b2.mono (by first | omega | (simp [size_drew]; done) | (simp [size_drew]; omega)))
  have r0_ := ((r0.setBox (by omega)).setBox (by omega)).below b2
  clear r0; have r0 := r0_; clear r0_
  have xa_ : Box w2 (w.heap.size) #[(.slice aA0 an0 ac0), (.slice aA1 an1 ac1), (.slice aA2 an2 ac2), (.slice aA3 an3 ac3), (.slice aA4 an4 ac4), (.slice aA5 an5 ac5)] 64 := ((xa.far (by omega)).far (by omega)).below b2 (by first | omega | (simp [size_drew]; done) | (simp [size_drew]; omega))
  clear xa; have xa := xa_; clear xa_
  have xr_ : Box w2 (w.heap.size + 1) #[.slice none 0 0, .slice none 0 0, .slice none 0 0, .slice none 0 0, .slice none 0 0, .slice none 0 0] 68 := ((xr.far (by omega)).far (by omega)).below b2 (by first | omega | (simp [size_drew]; done) | (simp [size_drew]; omega))
  clear xr; have xr := xr_; clear xr_
  have xo_ : Box w2 (w.heap.size + 1 + 1) #[(.slice cA0 cn0 cc0), (.slice cA1 cn1 cc1), .slice none 0 0, .slice none 0 0, .slice none 0 0, .slice none 0 0] 68 := ((xo.setAt (i := 0) (v := (.slice cA0 cn0 cc0)) (ds := #[(.slice cA0 cn0 cc0), .slice none 0 0, .slice none 0 0, .slice none 0 0, .slice none 0 0, .slice none 0 0]) (by simp)).setAt (i := 1) (v := (.slice cA1 cn1 cc1)) (ds := #[(.slice cA0 cn0 cc0), (.slice cA1 cn1 cc1), .slice none 0 0, .slice none 0 0, .slice none 0 0, .slice none 0 0]) (by simp)).below b2 (by first | omega | (simp [size_drew]; done) | (simp [size_drew]; omega))
  clear xo; have xo := xo_; clear xo_
  try simp only [World.size_alloc, World.size_setCell, size_drew] at r1
  obtain ⟨cxo_0, cxo_1, cxo_2, cxo_3, cxo_4, cxo_5, fxo_0, fxo_1, fxo_2, fxo_3, fxo_4, fxo_5⟩ := xo.six
  have l_xo_0 : w.heap.size + 1 + 1 < w2.heap.size := by omega
  obtain ⟨cxa_0, cxa_1, cxa_2, cxa_3, cxa_4, cxa_5, fxa_0, fxa_1, fxa_2, fxa_3, fxa_4, fxa_5⟩ := xa.six
  have l_xa_0 : w.heap.size < w2.heap.size := by omega
  go_wp2_with fail
  refine (toAuth_L (RdL.below (ls := [((.slice aA4 an4 ac4), .ints aL4), ((.slice aA5 an5 ac5), .ints aL5)]) (RdL.sub h (by simp)) (by repeat (with_reducible (first | assumption | exact Below.refl _ _ | refine Below.alloc ?_ (by first | omega | (simp; done) | (simp; omega)) _ | refine Below.setCell ?_ (by first | omega | (simp; done) | (simp; omega)) _ | refine Below.drew ?_ | refine below_drewN ?_ _)))) aL4n aL5n).mono ?_
  rintro e w3 ⟨cA4, cn4, cc4, cA5, cn5, cc5, rfl, r2, b3⟩
  clear cxo_0 cxo_1 cxo_2 cxo_3 cxo_4 cxo_5 fxo_0 fxo_1 fxo_2 fxo_3 fxo_4 fxo_5 l_xo_0 cxa_0 cxa_1 cxa_2 cxa_3 cxa_4 cxa_5 fxa_0 fxa_1 fxa_2 fxa_3 fxa_4 fxa_5 l_xa_0
  have z3 := b3.size
  try simp only [World.size_alloc, World.size_setCell, size_drew] at z3
  have B3 : Below w.heap.size w w3 := Below.trans (b := _) (by repeat (with_reducible (first | assumption | exact Below.refl _ _ | refine Below.alloc ?_ (by first | omega | (simp; done) | (simp; omega)) _ | refine Below.setCell ?_ (by first | omega | (simp; done) | (simp; omega)) _ | refine Below.drew ?_ | refine below_drewN ?_ _))) (b3.mono (by first | omega | (simp [size_drew]; done) | (simp [size_drew]; omega)))
  have r0_ := ((r0.setBox (by omega)).setBox (by omega)).below b3
  clear r0; have r0 := r0_; clear r0_
  have r1_ := ((r1.setBox (by omega)).setBox (by omega)).below b3
  clear r1; have r1 := r1_; clear r1_
  have xa_ : Box w3 (w.heap.size) #[(.slice aA0 an0 ac0), (.slice aA1 an1 ac1), (.slice aA2 an2 ac2), (.slice aA3 an3 ac3), (.slice aA4 an4 ac4), (.slice aA5 an5 ac5)] 64 := ((xa.far (by omega)).far (by omega)).below b3 (by first | omega | (simp [size_drew]; done) | (simp [size_drew]; omega))
  clear xa; have xa := xa_; clear xa_
  have xr_ : Box w3 (w.heap.size + 1) #[.slice none 0 0, .slice none 0 0, .slice none 0 0, .slice none 0 0, .slice none 0 0, .slice none 0 0] 68 := ((xr.far (by omega)).far (by omega)).below b3 (by first | omega | (simp [size_drew]; done) | (simp [size_drew]; omega))
  clear xr; have xr := xr_; clear xr_
  have xo_ : Box w3 (w.heap.size + 1 + 1) #[(.slice cA0 cn0 cc0), (.slice cA1 cn1 cc1), (.slice cA2 cn2 cc2), (.slice cA3 cn3 cc3), .slice none 0 0, .slice none 0 0] 68 := ((xo.setAt (i := 2) (v := (.slice cA2 cn2 cc2)) (ds := #[(.slice cA0 cn0 cc0), (.slice cA1 cn1 cc1), (.slice cA2 cn2 cc2), .slice none 0 0, .slice none 0 0, .slice none 0 0]) (by simp)).setAt (i := 3) (v := (.slice cA3 cn3 cc3)) (ds := #[(.slice cA0 cn0 cc0), (.slice cA1 cn1 cc1), (.slice cA2 cn2 cc2), (.slice cA3 cn3 cc3), .slice none 0 0, .slice none 0 0]) (by simp)).below b3 (by first | omega | (simp [size_drew]; done) | (simp [size_drew]; omega))
  clear xo; have xo := xo_; clear xo_
  try simp only [World.size_alloc, World.size_setCell, size_drew] at r2
  obtain ⟨cxo_0, cxo_1, cxo_2, cxo_3, cxo_4, cxo_5, fxo_0, fxo_1, fxo_2, fxo_3, fxo_4, fxo_5⟩ := xo.six
  have l_xo_0 : w.heap.size + 1 + 1 < w3.heap.size := by omega
  obtain ⟨cxa_0, cxa_1, cxa_2, cxa_3, cxa_4, cxa_5, fxa_0, fxa_1, fxa_2, fxa_3, fxa_4, fxa_5⟩ := xa.six
  have l_xa_0 : w.heap.size < w3.heap.size := by omega
  obtain ⟨cxr_0, cxr_1, cxr_2, cxr_3, cxr_4, cxr_5, fxr_0, fxr_1, fxr_2, fxr_3, fxr_4, fxr_5⟩ := xr.six
  have l_xr_0 : w.heap.size + 1 < w3.heap.size := by omega
  go_wp2
  refine bodyPost_ret (v := .agg #[(.slice cA0 cn0 cc0), (.slice cA1 cn1 cc1), (.slice cA2 cn2 cc2), (.slice cA3 cn3 cc3), (.slice cA4 cn4 cc4), (.slice cA5 cn5 cc5)]) ?_ rfl ⟨cA0, cn0, cc0, cA1, cn1, cc1, cA2, cn2, cc2, cA3, cn3, cc3, cA4, cn4, cc4, cA5, cn5, cc5, rfl, ?_, ?_⟩
  · simp [results, Try.results60, go_sem, cxo_0, cxo_1, cxo_2, cxo_3, cxo_4, cxo_5, fxo_0, fxo_1, fxo_2, fxo_3, fxo_4, fxo_5, l_xo_0, cxa_0, cxa_1, cxa_2, cxa_3, cxa_4, cxa_5, fxa_0, fxa_1, fxa_2, fxa_3, fxa_4, fxa_5, l_xa_0, cxr_0, cxr_1, cxr_2, cxr_3, cxr_4, cxr_5, fxr_0, fxr_1, fxr_2, fxr_3, fxr_4, fxr_5, l_xr_0]
  · have R := (OwnL.then (OwnL.then r0 r1 (by omega)) r2 (by omega))
    simp only [List.cons_append, List.nil_append] at R
    refine OwnL.widen (lo := w.heap.size + 1 + 1 + 1) (hi := w3.heap.size) ?_ (by omega)
    repeat (with_reducible (first | exact R | refine OwnL.alloc ?_ _ | refine OwnL.setBox ?_ ?_ | refine OwnL.drew ?_))
    all_goals omega
  · repeat (with_reducible (first | assumption | exact Below.refl _ _ | refine Below.alloc ?_ (by first | omega | (simp; done) | (simp; omega)) _ | refine Below.setCell ?_ (by first | omega | (simp; done) | (simp; omega)) _ | refine Below.drew ?_ | refine below_drewN ?_ _))
set_option maxRecDepth 100000 in
set_option maxHeartbeats 1000000 in
theorem eqTriple_L {aA0 : Option Addr} {an0 ac0 : Nat} {aL0 : List Int} {aA1 : Option Addr} {an1 ac1 : Nat} {aL1 : List Int} {aA2 : Option Addr} {an2 ac2 : Nat} {aL2 : List Int} {aA3 : Option Addr} {an3 ac3 : Nat} {aL3 : List Int} {aA4 : Option Addr} {an4 ac4 : Nat} {aL4 : List Int} {aA5 : Option Addr} {an5 ac5 : Nat} {aL5 : List Int} {cA0 : Option Addr} {cn0 cc0 : Nat} {cA1 : Option Addr} {cn1 cc1 : Nat} {cA2 : Option Addr} {cn2 cc2 : Nat} {cA3 : Option Addr} {cn3 cc3 : Nat} {cA4 : Option Addr} {cn4 cc4 : Nat} {cA5 : Option Addr} {cn5 cc5 : Nat} {w : World} (h : RdL w [((.slice aA0 an0 ac0), .ints aL0), ((.slice aA1 an1 ac1), .ints aL1), ((.slice aA2 an2 ac2), .ints aL2), ((.slice aA3 an3 ac3), .ints aL3), ((.slice aA4 an4 ac4), .ints aL4), ((.slice aA5 an5 ac5), .ints aL5)]) (h2 : RdL w [((.slice cA0 cn0 cc0), .ints aL0), ((.slice cA1 cn1 cc1), .ints aL1), ((.slice cA2 cn2 cc2), .ints aL2), ((.slice cA3 cn3 cc3), .ints aL3), ((.slice cA4 cn4 cc4), .ints aL4), ((.slice cA5 cn5 cc5), .ints aL5)]) (aL0n : aL0.length ≤ 1048576) (aL1n : aL1.length ≤ 1048576) (aL2n : aL2.length ≤ 1048576) (aL3n : aL3.length ≤ 1048576) (aL4n : aL4.length ≤ 1048576) (aL5n : aL5.length ≤ 1048576) :
    Calls Try.prog 62 #[.agg #[(.slice aA0 an0 ac0), (.slice aA1 an1 ac1), (.slice aA2 an2 ac2), (.slice aA3 an3 ac3), (.slice aA4 an4 ac4), (.slice aA5 an5 ac5)], .agg #[(.slice cA0 cn0 cc0), (.slice cA1 cn1 cc1), (.slice cA2 cn2 cc2), (.slice cA3 cn3 cc3), (.slice cA4 cn4 cc4), (.slice cA5 cn5 cc5)]] w fun e w' => e = .returned (.bool true) ∧ Below w.heap.size w w' := by
  go_enter Try.func62, Try.ntmps62
  go_wp2_with fail
  refine (eqAuth_L (RdL.below (ls := [((.slice aA0 an0 ac0), .ints aL0), ((.slice aA1 an1 ac1), .ints aL1)]) (RdL.sub h (by simp)) (by repeat (with_reducible (first | assumption | exact Below.refl _ _ | refine Below.alloc ?_ (by first | omega | (simp; done) | (simp; omega)) _ | refine Below.setCell ?_ (by first | omega | (simp; done) | (simp; omega)) _ | refine Below.drew ?_ | refine below_drewN ?_ _)))) (RdL.below (ls := [((.slice cA0 cn0 cc0), .ints aL0), ((.slice cA1 cn1 cc1), .ints aL1)]) (RdL.sub h2 (by simp)) (by repeat (with_reducible (first | assumption | exact Below.refl _ _ | refine Below.alloc ?_ (by first | omega | (simp; done) | (simp; omega)) _ | refine Below.setCell ?_ (by first | omega | (simp; done) | (simp; omega)) _ | refine Below.drew ?_ | refine below_drewN ?_ _)))) aL0n aL1n).mono ?_
  rintro e w1 ⟨rfl, b1⟩
  have z1 := b1.size
  try simp only [World.size_alloc, World.size_setCell, size_drew] at z1
  have B1 : Below w.heap.size w w1 := Below.trans (b := _) (by repeat (with_reducible (first | assumption | exact Below.refl _ _ | refine Below.alloc ?_ (by first | omega | (simp; done) | (simp; omega)) _ | refine Below.setCell ?_ (by first | omega | (simp; done) | (simp; omega)) _ | refine Below.drew ?_ | refine below_drewN ?_ _))) (b1.mono (by first | omega | (simp [size_drew]; done) | (simp [size_drew]; omega)))
  have xa_ : Box w1 (w.heap.size) #[(.slice aA0 an0 ac0), (.slice aA1 an1 ac1), (.slice aA2 an2 ac2), (.slice aA3 an3 ac3), (.slice aA4 an4 ac4), (.slice aA5 an5 ac5)] 68 := ((Box.new (g := w.heap.size) _ #[(.slice aA0 an0 ac0), (.slice aA1 an1 ac1), (.slice aA2 an2 ac2), (.slice aA3 an3 ac3), (.slice aA4 an4 ac4), (.slice aA5 an5 ac5)] 68 (by simp)).alloc _).below b1 (by first | omega | (simp [size_drew]; done) | (simp [size_drew]; omega))
  have xa := xa_; clear xa_
  have xc_ : Box w1 (w.heap.size + 1) #[(.slice cA0 cn0 cc0), (.slice cA1 cn1 cc1), (.slice cA2 cn2 cc2), (.slice cA3 cn3 cc3), (.slice cA4 cn4 cc4), (.slice cA5 cn5 cc5)] 68 := (Box.new (g := w.heap.size + 1) _ #[(.slice cA0 cn0 cc0), (.slice cA1 cn1 cc1), (.slice cA2 cn2 cc2), (.slice cA3 cn3 cc3), (.slice cA4 cn4 cc4), (.slice cA5 cn5 cc5)] 68 (by simp)).below b1 (by first | omega | (simp [size_drew]; done) | (simp [size_drew]; omega))
  have xc := xc_; clear xc_
  obtain ⟨cxa_0, cxa_1, cxa_2, cxa_3, cxa_4, cxa_5, fxa_0, fxa_1, fxa_2, fxa_3, fxa_4, fxa_5⟩ := xa.six
  have l_xa_0 : w.heap.size < w1.heap.size := by omega
  obtain ⟨cxc_0, cxc_1, cxc_2, cxc_3, cxc_4, cxc_5, fxc_0, fxc_1, fxc_2, fxc_3, fxc_4, fxc_5⟩ := xc.six
  have l_xc_0 : w.heap.size + 1 < w1.heap.size := by omega
  go_wp2_with fail
  refine (eqAuth_L (RdL.below (ls := [((.slice aA2 an2 ac2), .ints aL2), ((.slice aA3 an3 ac3), .ints aL3)]) (RdL.sub h (by simp)) (by repeat (with_reducible (first | assumption | exact Below.refl _ _ | refine Below.alloc ?_ (by first | omega | (simp; done) | (simp; omega)) _ | refine Below.setCell ?_ (by first | omega | (simp; done) | (simp; omega)) _ | refine Below.drew ?_ | refine below_drewN ?_ _)))) (RdL.below (ls := [((.slice cA2 cn2 cc2), .ints aL2), ((.slice cA3 cn3 cc3), .ints aL3)]) (RdL.sub h2 (by simp)) (by repeat (with_reducible (first | assumption | exact Below.refl _ _ | refine Below.alloc ?_ (by first | omega | (simp; done) | (simp; omega)) _ | refine Below.setCell ?_ (by first | omega | (simp; done) | (simp; omega)) _ | refine Below.drew ?_ | refine below_drewN ?_ _)))) aL2n aL3n).mono ?_
  rintro e w2 ⟨rfl, b2⟩
  clear cxa_0 cxa_1 cxa_2 cxa_3 cxa_4 cxa_5 fxa_0 fxa_1 fxa_2 fxa_3 fxa_4 fxa_5 l_xa_0 cxc_0 cxc_1 cxc_2 cxc_3 cxc_4 cxc_5 fxc_0 fxc_1 fxc_2 fxc_3 fxc_4 fxc_5 l_xc_0
  have z2 := b2.size
  try simp only [World.size_alloc, World.size_setCell, size_drew] at z2
  have B2 : Below w.heap.size w w2 := Below.trans (b := _) (by repeat (with_reducible (first | assumption | exact Below.refl _ _ | refine Below.alloc ?_ (by first | omega | (simp; done) | (simp; omega)) _ | refine Below.setCell ?_ (by first | omega | (simp; done) | (simp; omega)) _ | refine Below.drew ?_ | refine below_drewN ?_ _))) (b2.mono (by first | omega | (simp [size_drew]; done) | (simp [size_drew]; omega)))
  have xa_ : Box w2 (w.heap.size) #[(.slice aA0 an0 ac0), (.slice aA1 an1 ac1), (.slice aA2 an2 ac2), (.slice aA3 an3 ac3), (.slice aA4 an4 ac4), (.slice aA5 an5 ac5)] 68 := xa.below b2 (by first | omega | (simp [size_drew]; done) | (simp [size_drew]; omega))
  clear xa; have xa := xa_; clear xa_
  have xc_ : Box w2 (w.heap.size + 1) #[(.slice cA0 cn0 cc0), (.slice cA1 cn1 cc1), (.slice cA2 cn2 cc2), (.slice cA3 cn3 cc3), (.slice cA4 cn4 cc4), (.slice cA5 cn5 cc5)] 68 := xc.below b2 (by first | omega | (simp [size_drew]; done) | (simp [size_drew]; omega))
  clear xc; have xc := xc_; clear xc_
  obtain ⟨cxa_0, cxa_1, cxa_2, cxa_3, cxa_4, cxa_5, fxa_0, fxa_1, fxa_2, fxa_3, fxa_4, fxa_5⟩ := xa.six
  have l_xa_0 : w.heap.size < w2.heap.size := by omega
  obtain ⟨cxc_0, cxc_1, cxc_2, cxc_3, cxc_4, cxc_5, fxc_0, fxc_1, fxc_2, fxc_3, fxc_4, fxc_5⟩ := xc.six
  have l_xc_0 : w.heap.size + 1 < w2.heap.size := by omega
  go_wp2_with fail
  refine (eqAuth_L (RdL.below (ls := [((.slice aA4 an4 ac4), .ints aL4), ((.slice aA5 an5 ac5), .ints aL5)]) (RdL.sub h (by simp)) (by repeat (with_reducible (first | assumption | exact Below.refl _ _ | refine Below.alloc ?_ (by first | omega | (simp; done) | (simp; omega)) _ | refine Below.setCell ?_ (by first | omega | (simp; done) | (simp; omega)) _ | refine Below.drew ?_ | refine below_drewN ?_ _)))) (RdL.below (ls := [((.slice cA4 cn4 cc4), .ints aL4), ((.slice cA5 cn5 cc5), .ints aL5)]) (RdL.sub h2 (by simp)) (by repeat (with_reducible (first | assumption | exact Below.refl _ _ | refine Below.alloc ?_ (by first | omega | (simp; done) | (simp; omega)) _ | refine Below.setCell ?_ (by first | omega | (simp; done) | (simp; omega)) _ | refine Below.drew ?_ | refine below_drewN ?_ _)))) aL4n aL5n).mono ?_
  rintro e w3 ⟨rfl, b3⟩
  clear cxa_0 cxa_1 cxa_2 cxa_3 cxa_4 cxa_5 fxa_0 fxa_1 fxa_2 fxa_3 fxa_4 fxa_5 l_xa_0 cxc_0 cxc_1 cxc_2 cxc_3 cxc_4 cxc_5 fxc_0 fxc_1 fxc_2 fxc_3 fxc_4 fxc_5 l_xc_0
  have z3 := b3.size
  try simp only [World.size_alloc, World.size_setCell, size_drew] at z3
  have B3 : Below w.heap.size w w3 := Below.trans (b := _) (by repeat (with_reducible (first | assumption | exact Below.refl _ _ | refine Below.alloc ?_ (by first | omega | (simp; done) | (simp; omega)) _ | refine Below.setCell ?_ (by first | omega | (simp; done) | (simp; omega)) _ | refine Below.drew ?_ | refine below_drewN ?_ _))) (b3.mono (by first | omega | (simp [size_drew]; done) | (simp [size_drew]; omega)))
  have xa_ : Box w3 (w.heap.size) #[(.slice aA0 an0 ac0), (.slice aA1 an1 ac1), (.slice aA2 an2 ac2), (.slice aA3 an3 ac3), (.slice aA4 an4 ac4), (.slice aA5 an5 ac5)] 68 := xa.below b3 (by first | omega | (simp [size_drew]; done) | (simp [size_drew]; omega))
  clear xa; have xa := xa_; clear xa_
  have xc_ : Box w3 (w.heap.size + 1) #[(.slice cA0 cn0 cc0), (.slice cA1 cn1 cc1), (.slice cA2 cn2 cc2), (.slice cA3 cn3 cc3), (.slice cA4 cn4 cc4), (.slice cA5 cn5 cc5)] 68 := xc.below b3 (by first | omega | (simp [size_drew]; done) | (simp [size_drew]; omega))
  clear xc; have xc := xc_; clear xc_
  obtain ⟨cxa_0, cxa_1, cxa_2, cxa_3, cxa_4, cxa_5, fxa_0, fxa_1, fxa_2, fxa_3, fxa_4, fxa_5⟩ := xa.six
  have l_xa_0 : w.heap.size < w3.heap.size := by omega
  obtain ⟨cxc_0, cxc_1, cxc_2, cxc_3, cxc_4, cxc_5, fxc_0, fxc_1, fxc_2, fxc_3, fxc_4, fxc_5⟩ := xc.six
  have l_xc_0 : w.heap.size + 1 < w3.heap.size := by omega
  go_wp2
  go_ret
  refine ⟨rfl, ?_⟩
  repeat (with_reducible (first | assumption | exact Below.refl _ _ | refine Below.alloc ?_ (by first | omega | (simp; done) | (simp; omega)) _ | refine Below.setCell ?_ (by first | omega | (simp; done) | (simp; omega)) _ | refine Below.drew ?_ | refine below_drewN ?_ _))
set_option maxRecDepth 100000 in
set_option maxHeartbeats 1000000 in
theorem markKeys_P {lo hi : Nat} {pre post : List (Value × Dat)} {aA1 : Option Addr} {an1 ac1 : Nat} {aL1 : List Int} {w : World} (aI0 : Int) (k0 : Nat) (K : Int) (h : OwnL w lo hi (pre ++ ((.slice aA1 an1 ac1), .ints aL1) :: post)) (hK : K = k0) (hk : k0 ≤ 500000000000) (aL1n : aL1.length ≤ 1048576) :
    Calls Try.prog 50 #[.agg #[.int .i64 aI0, (.slice aA1 an1 ac1)], .int .i64 K] w fun e w' => e = .returned (.int .i64 (((k0 + (aL1.length) : Nat) : Int))) ∧ OwnL w' lo hi (pre ++ ((.slice aA1 an1 ac1), .ints (seqL (k0) aL1.length)) :: post) ∧ Chg lo hi w w' := by
  subst hK
  have hlo := h.1
  have hhi := h.2.1
  go_enter Try.func50, Try.ntmps50
  replace h : OwnL w lo hi (pre ++ ((.slice aA1 an1 ac1), .ints aL1) :: post) := by simpa using h
  go_wp2_with fail
  refine (markIntS_L (pre := pre) (post := post) (k0) _ (h.alloc _) (by first | omega | (simp [size_drew]; done) | (simp [size_drew]; omega)) (by omega) aL1n).mono ?_
  rintro e w1 ⟨rfl, h, c1⟩
  have z1 := c1.size
  try simp only [World.size_alloc, World.size_setCell, size_drew] at z1
  have xa_ : Box w1 (w.heap.size) #[.int .i64 aI0, (.slice aA1 an1 ac1)] 33 := (Box.new (g := w.heap.size) _ #[.int .i64 aI0, (.slice aA1 an1 ac1)] 33 (by simp)).chg c1 (by omega)
  have xa := xa_; clear xa_
  obtain ⟨cxa_0, cxa_1, fxa_0, fxa_1⟩ := xa.two
  have l_xa_0 : w.heap.size < w1.heap.size := by omega
  go_wp2
  go_ret
  refine ⟨ret_int (by omega), by simpa using h, ?_⟩
  exact (Chg.of_alloc _ c1)
set_option maxRecDepth 100000 in
set_option maxHeartbeats 1000000 in
theorem markKeys_L {lo hi : Nat} {aA1 : Option Addr} {an1 ac1 : Nat} {aL1 : List Int} {w : World} (aI0 : Int) (k0 : Nat) (K : Int) (h : OwnL w lo hi [((.slice aA1 an1 ac1), .ints aL1)]) (hK : K = k0) (hk : k0 ≤ 500000000000) (aL1n : aL1.length ≤ 1048576) :
    Calls Try.prog 50 #[.agg #[.int .i64 aI0, (.slice aA1 an1 ac1)], .int .i64 K] w fun e w' => e = .returned (.int .i64 (((k0 + (aL1.length) : Nat) : Int))) ∧ OwnL w' lo hi (((.slice aA1 an1 ac1), .ints (seqL (k0) aL1.length)) :: []) ∧ Chg lo hi w w' := by
  exact markKeys_P (pre := []) (post := []) aI0 k0 K h hK hk aL1n
set_option maxRecDepth 100000 in
set_option maxHeartbeats 1000000 in
theorem heldKeys_L {aA1 : Option Addr} {an1 ac1 : Nat} {w : World} (m1 : Nat) (aI0 : Int) (k0 : Nat) (K : Int) (h : RdL w [((.slice aA1 an1 ac1), .ints (seqL (k0) m1))]) (hK : K = k0) (hk : k0 ≤ 500000000000) (hm1 : m1 ≤ 1048576) :
    Calls Try.prog 51 #[.agg #[.int .i64 aI0, (.slice aA1 an1 ac1)], .int .i64 K] w fun e w' => e = .returned (.int .i64 (((k0 + (m1) : Nat) : Int))) ∧ Below w.heap.size w w' := by
  subst hK
  go_enter Try.func51, Try.ntmps51
  go_wp2_with fail
  refine (heldIntS_L m1 (k0) _ (RdL.below (ls := [((.slice aA1 an1 ac1), .ints (seqL (k0) m1))]) (RdL.sub h (by simp)) (by repeat (with_reducible (first | assumption | exact Below.refl _ _ | refine Below.alloc ?_ (by first | omega | (simp; done) | (simp; omega)) _ | refine Below.setCell ?_ (by first | omega | (simp; done) | (simp; omega)) _ | refine Below.drew ?_ | refine below_drewN ?_ _)))) (by first | omega | (simp [size_drew]; done) | (simp [size_drew]; omega)) (by omega) hm1).mono ?_
  rintro e w_ ⟨rfl, rfl⟩
  go_wp2
  go_ret
  refine ⟨ret_int (by omega), ?_⟩
  repeat (with_reducible (first | assumption | exact Below.refl _ _ | refine Below.alloc ?_ (by first | omega | (simp; done) | (simp; omega)) _ | refine Below.setCell ?_ (by first | omega | (simp; done) | (simp; omega)) _ | refine Below.drew ?_ | refine below_drewN ?_ _))
set_option maxRecDepth 100000 in
set_option maxHeartbeats 1000000 in
theorem markAuth_P {lo hi : Nat} {pre post : List (Value × Dat)} {aA0 : Option Addr} {an0 ac0 : Nat} {aL0 : List Int} {aA1 : Option Addr} {an1 ac1 : Nat} {aL1 : List Int} {w : World} (k0 : Nat) (K : Int) (h : OwnL w lo hi (pre ++ ((.slice aA0 an0 ac0), .ints aL0) :: ((.slice aA1 an1 ac1), .ints aL1) :: post)) (hK : K = k0) (hk : k0 ≤ 500000000000) (aL0n : aL0.length ≤ 1048576) (aL1n : aL1.length ≤ 1048576) :
    Calls Try.prog 54 #[.agg #[(.slice aA0 an0 ac0), (.slice aA1 an1 ac1)], .int .i64 K] w fun e w' => e = .returned (.int .i64 (((k0 + (aL0.length + aL1.length) : Nat) : Int))) ∧ OwnL w' lo hi (pre ++ ((.slice aA0 an0 ac0), .ints (seqL (k0) aL0.length)) :: ((.slice aA1 an1 ac1), .ints (seqL (k0 + aL0.length) aL1.length)) :: post) ∧ Chg lo hi w w' := by
  subst hK
  have hlo := h.1
  have hhi := h.2.1
  go_enter Try.func54, Try.ntmps54
  replace h : OwnL w lo hi (pre ++ ((.slice aA0 an0 ac0), .ints aL0) :: (((.slice aA1 an1 ac1), .ints aL1) :: post)) := by simpa using h
  go_wp2_with fail
  refine (markIntS_L (pre := pre) (post := (((.slice aA1 an1 ac1), .ints aL1) :: post)) (k0) _ (h.alloc _) (by first | omega | (simp [size_drew]; done) | (simp [size_drew]; omega)) (by omega) aL0n).mono ?_
  rintro e w1 ⟨rfl, h, c1⟩
  have z1 := c1.size
  try simp only [World.size_alloc, World.size_setCell, size_drew] at z1
  have xa_ : Box w1 (w.heap.size) #[(.slice aA0 an0 ac0), (.slice aA1 an1 ac1)] 38 := (Box.new (g := w.heap.size) _ #[(.slice aA0 an0 ac0), (.slice aA1 an1 ac1)] 38 (by simp)).chg c1 (by omega)
  have xa := xa_; clear xa_
  replace h : OwnL w1 lo hi ((pre ++ (((.slice aA0 an0 ac0), .ints (seqL (k0) aL0.length)) :: [])) ++ ((.slice aA1 an1 ac1), .ints aL1) :: post) := by simpa using h
  obtain ⟨cxa_0, cxa_1, fxa_0, fxa_1⟩ := xa.two
  have l_xa_0 : w.heap.size < w1.heap.size := by omega
  go_wp2_with fail
  refine (markIntS_L (pre := (pre ++ (((.slice aA0 an0 ac0), .ints (seqL (k0) aL0.length)) :: []))) (post := post) (k0 + aL0.length) _ h (by first | omega | (simp [size_drew]; done) | (simp [size_drew]; omega)) (by omega) aL1n).mono ?_
  rintro e w2 ⟨rfl, h, c2⟩
  clear cxa_0 cxa_1 fxa_0 fxa_1 l_xa_0
  have z2 := c2.size
  try simp only [World.size_alloc, World.size_setCell, size_drew] at z2
  have xa_ : Box w2 (w.heap.size) #[(.slice aA0 an0 ac0), (.slice aA1 an1 ac1)] 38 := xa.chg c2 (by omega)
  clear xa; have xa := xa_; clear xa_
  obtain ⟨cxa_0, cxa_1, fxa_0, fxa_1⟩ := xa.two
  have l_xa_0 : w.heap.size < w2.heap.size := by omega
  go_wp2
  go_ret
  refine ⟨ret_int (by omega), by simpa using h, ?_⟩
  exact (Chg.trans (Chg.of_alloc _ c1) c2)
set_option maxRecDepth 100000 in
set_option maxHeartbeats 1000000 in
theorem markAuth_L {lo hi : Nat} {aA0 : Option Addr} {an0 ac0 : Nat} {aL0 : List Int} {aA1 : Option Addr} {an1 ac1 : Nat} {aL1 : List Int} {w : World} (k0 : Nat) (K : Int) (h : OwnL w lo hi [((.slice aA0 an0 ac0), .ints aL0), ((.slice aA1 an1 ac1), .ints aL1)]) (hK : K = k0) (hk : k0 ≤ 500000000000) (aL0n : aL0.length ≤ 1048576) (aL1n : aL1.length ≤ 1048576) :
    Calls Try.prog 54 #[.agg #[(.slice aA0 an0 ac0), (.slice aA1 an1 ac1)], .int .i64 K] w fun e w' => e = .returned (.int .i64 (((k0 + (aL0.length + aL1.length) : Nat) : Int))) ∧ OwnL w' lo hi (((.slice aA0 an0 ac0), .ints (seqL (k0) aL0.length)) :: ((.slice aA1 an1 ac1), .ints (seqL (k0 + aL0.length) aL1.length)) :: []) ∧ Chg lo hi w w' := by
  exact markAuth_P (pre := []) (post := [])  k0 K h hK hk aL0n aL1n
set_option maxRecDepth 100000 in
set_option maxHeartbeats 1000000 in
theorem heldAuth_L {aA0 : Option Addr} {an0 ac0 : Nat} {aA1 : Option Addr} {an1 ac1 : Nat} {w : World} (m0 m1 : Nat) (k0 : Nat) (K : Int) (h : RdL w [((.slice aA0 an0 ac0), .ints (seqL (k0) m0)), ((.slice aA1 an1 ac1), .ints (seqL (k0 + m0) m1))]) (hK : K = k0) (hk : k0 ≤ 500000000000) (hm0 : m0 ≤ 1048576) (hm1 : m1 ≤ 1048576) :
    Calls Try.prog 55 #[.agg #[(.slice aA0 an0 ac0), (.slice aA1 an1 ac1)], .int .i64 K] w fun e w' => e = .returned (.int .i64 (((k0 + (m0 + m1) : Nat) : Int))) ∧ Below w.heap.size w w' := by
  subst hK
  go_enter Try.func55, Try.ntmps55
  go_wp2_with fail
  refine (heldIntS_L m0 (k0) _ (RdL.below (ls := [((.slice aA0 an0 ac0), .ints (seqL (k0) m0))]) (RdL.sub h (by simp)) (by repeat (with_reducible (first | assumption | exact Below.refl _ _ | refine Below.alloc ?_ (by first | omega | (simp; done) | (simp; omega)) _ | refine Below.setCell ?_ (by first | omega | (simp; done) | (simp; omega)) _ | refine Below.drew ?_ | refine below_drewN ?_ _)))) (by first | omega | (simp [size_drew]; done) | (simp [size_drew]; omega)) (by omega) hm0).mono ?_
  rintro e w_ ⟨rfl, rfl⟩
  go_wp2_with fail
  refine (heldIntS_L m1 (k0 + m0) _ (RdL.below (ls := [((.slice aA1 an1 ac1), .ints (seqL (k0 + m0) m1))]) (RdL.sub h (by simp)) (by repeat (with_reducible (first | assumption | exact Below.refl _ _ | refine Below.alloc ?_ (by first | omega | (simp; done) | (simp; omega)) _ | refine Below.setCell ?_ (by first | omega | (simp; done) | (simp; omega)) _ | refine Below.drew ?_ | refine below_drewN ?_ _)))) (by first | omega | (simp [size_drew]; done) | (simp [size_drew]; omega)) (by omega) hm1).mono ?_
  rintro e w_ ⟨rfl, rfl⟩
  go_wp2
  go_ret
  refine ⟨ret_int (by omega), ?_⟩
  repeat (with_reducible (first | assumption | exact Below.refl _ _ | refine Below.alloc ?_ (by first | omega | (simp; done) | (simp; omega)) _ | refine Below.setCell ?_ (by first | omega | (simp; done) | (simp; omega)) _ | refine Below.drew ?_ | refine below_drewN ?_ _))
set_option maxRecDepth 100000 in
set_option maxHeartbeats 1000000 in
theorem markTriple_P {lo hi : Nat} {pre post : List (Value × Dat)} {aA0 : Option Addr} {an0 ac0 : Nat} {aL0 : List Int} {aA1 : Option Addr} {an1 ac1 : Nat} {aL1 : List Int} {aA2 : Option Addr} {an2 ac2 : Nat} {aL2 : List Int} {aA3 : Option Addr} {an3 ac3 : Nat} {aL3 : List Int} {aA4 : Option Addr} {an4 ac4 : Nat} {aL4 : List Int} {aA5 : Option Addr} {an5 ac5 : Nat} {aL5 : List Int} {w : World} (k0 : Nat) (K : Int) (h : OwnL w lo hi (pre ++ ((.slice aA0 an0 ac0), .ints aL0) :: ((.slice aA1 an1 ac1), .ints aL1) :: ((.slice aA2 an2 ac2), .ints aL2) :: ((.slice aA3 an3 ac3), .ints aL3) :: ((.slice aA4 an4 ac4), .ints aL4) :: ((.slice aA5 an5 ac5), .ints aL5) :: post)) (hK : K = k0) (hk : k0 ≤ 100000000000) (aL0n : aL0.length ≤ 1048576) (aL1n : aL1.length ≤ 1048576) (aL2n : aL2.length ≤ 1048576) (aL3n : aL3.length ≤ 1048576) (aL4n : aL4.length ≤ 1048576) (aL5n : aL5.length ≤ 1048576) :
    Calls Try.prog 83 #[.agg #[(.slice aA0 an0 ac0), (.slice aA1 an1 ac1), (.slice aA2 an2 ac2), (.slice aA3 an3 ac3), (.slice aA4 an4 ac4), (.slice aA5 an5 ac5)], .int .i64 K] w fun e w' => e = .returned (.int .i64 (((k0 + (aL0.length + aL1.length + aL2.length + aL3.length + aL4.length + aL5.length) : Nat) : Int))) ∧ OwnL w' lo hi (pre ++ ((.slice aA0 an0 ac0), .ints (seqL (k0) aL0.length)) :: ((.slice aA1 an1 ac1), .ints (seqL (k0 + aL0.length) aL1.length)) :: ((.slice aA2 an2 ac2), .ints (seqL (k0 + aL0.length + aL1.length) aL2.length)) :: ((.slice aA3 an3 ac3), .ints (seqL (k0 + aL0.length + aL1.length + aL2.length) aL3.length)) :: ((.slice aA4 an4 ac4), .ints (seqL (k0 + aL0.length + aL1.length + aL2.length + aL3.length) aL4.length)) :: ((.slice aA5 an5 ac5), .ints (seqL (k0 + aL0.length + aL1.length + aL2.length + aL3.length + aL4.length) aL5.length)) :: post) ∧ Chg lo hi w w' := by
  subst hK
  have hlo := h.1
  have hhi := h.2.1
  go_enter Try.func83, Try.ntmps83
  replace h : OwnL w lo hi (pre ++ ((.slice aA0 an0 ac0), .ints aL0) :: ((.slice aA1 an1 ac1), .ints aL1) :: (((.slice aA2 an2 ac2), .ints aL2) :: ((.slice aA3 an3 ac3), .ints aL3) :: ((.slice aA4 an4 ac4), .ints aL4) :: ((.slice aA5 an5 ac5), .ints aL5) :: post)) := by simpa using h
  go_wp2_with fail
  refine (markAuth_P (pre := pre) (post := (((.slice aA2 an2 ac2), .ints aL2) :: ((.slice aA3 an3 ac3), .ints aL3) :: ((.slice aA4 an4 ac4), .ints aL4) :: ((.slice aA5 an5 ac5), .ints aL5) :: post)) (k0) _ (h.alloc _) (by first | omega | (simp [size_drew]; done) | (simp [size_drew]; omega)) (by omega) aL0n aL1n).mono ?_
  rintro e w1 ⟨rfl, h, c1⟩
  have z1 := c1.size
  try simp only [World.size_alloc, World.size_setCell, size_drew] at z1
  have xa_ : Box w1 (w.heap.size) #[(.slice aA0 an0 ac0), (.slice aA1 an1 ac1), (.slice aA2 an2 ac2), (.slice aA3 an3 ac3), (.slice aA4 an4 ac4), (.slice aA5 an5 ac5)] 68 := (Box.new (g := w.heap.size) _ #[(.slice aA0 an0 ac0), (.slice aA1 an1 ac1), (.slice aA2 an2 ac2), (.slice aA3 an3 ac3), (.slice aA4 an4 ac4), (.slice aA5 an5 ac5)] 68 (by simp)).chg c1 (by omega)
  have xa := xa_; clear xa_
  replace h : OwnL w1 lo hi ((pre ++ (((.slice aA0 an0 ac0), .ints (seqL (k0) aL0.length)) :: ((.slice aA1 an1 ac1), .ints (seqL (k0 + aL0.length) aL1.length)) :: [])) ++ ((.slice aA2 an2 ac2), .ints aL2) :: ((.slice aA3 an3 ac3), .ints aL3) :: (((.slice aA4 an4 ac4), .ints aL4) :: ((.slice aA5 an5 ac5), .ints aL5) :: post)) := by simpa using h
  obtain ⟨cxa_0, cxa_1, cxa_2, cxa_3, cxa_4, cxa_5, fxa_0, fxa_1, fxa_2, fxa_3, fxa_4, fxa_5⟩ := xa.six
  have l_xa_0 : w.heap.size < w1.heap.size := by omega
  go_wp2_with fail
  refine (markAuth_P (pre := (pre ++ (((.slice aA0 an0 ac0), .ints (seqL (k0) aL0.length)) :: ((.slice aA1 an1 ac1), .ints (seqL (k0 + aL0.length) aL1.length)) :: []))) (post := (((.slice aA4 an4 ac4), .ints aL4) :: ((.slice aA5 an5 ac5), .ints aL5) :: post)) (k0 + aL0.length + aL1.length) _ h (by first | omega | (simp [size_drew]; done) | (simp [size_drew]; omega)) (by omega) aL2n aL3n).mono ?_
  rintro e w2 ⟨rfl, h, c2⟩
  clear cxa_0 cxa_1 cxa_2 cxa_3 cxa_4 cxa_5 fxa_0 fxa_1 fxa_2 fxa_3 fxa_4 fxa_5 l_xa_0
  have z2 := c2.size
  try simp only [World.size_alloc, World.size_setCell, size_drew] at z2
  have xa_ : Box w2 (w.heap.size) #[(.slice aA0 an0 ac0), (.slice aA1 an1 ac1), (.slice aA2 an2 ac2), (.slice aA3 an3 ac3), (.slice aA4 an4 ac4), (.slice aA5 an5 ac5)] 68 := xa.chg c2 (by omega)
  clear xa; have xa := xa_; clear xa_
  replace h : OwnL w2 lo hi ((pre ++ (((.slice aA0 an0 ac0), .ints (seqL (k0) aL0.length)) :: ((.slice aA1 an1 ac1), .ints (seqL (k0 + aL0.length) aL1.length)) :: ((.slice aA2 an2 ac2), .ints (seqL (k0 + aL0.length + aL1.length) aL2.length)) :: ((.slice aA3 an3 ac3), .ints (seqL (k0 + aL0.length + aL1.length + aL2.length) aL3.length)) :: [])) ++ ((.slice aA4 an4 ac4), .ints aL4) :: ((.slice aA5 an5 ac5), .ints aL5) :: post) := by simpa using h
  obtain ⟨cxa_0, cxa_1, cxa_2, cxa_3, cxa_4, cxa_5, fxa_0, fxa_1, fxa_2, fxa_3, fxa_4, fxa_5⟩ := xa.six
  have l_xa_0 : w.heap.size < w2.heap.size := by omega
  go_wp2_with fail
  refine (markAuth_P (pre := (pre ++ (((.slice aA0 an0 ac0), .ints (seqL (k0) aL0.length)) :: ((.slice aA1 an1 ac1), .ints (seqL (k0 + aL0.length) aL1.length)) :: ((.slice aA2 an2 ac2), .ints (seqL (k0 + aL0.length + aL1.length) aL2.length)) :: ((.slice aA3 an3 ac3), .ints (seqL (k0 + aL0.length + aL1.length + aL2.length) aL3.length)) :: []))) (post := post) (k0 + aL0.length + aL1.length + aL2.length + aL3.length) _ h (by first | omega | (simp [size_drew]; done) | (simp [size_drew]; omega)) (by omega) aL4n aL5n).mono ?_
  rintro e w3 ⟨rfl, h, c3⟩
  clear cxa_0 cxa_1 cxa_2 cxa_3 cxa_4 cxa_5 fxa_0 fxa_1 fxa_2 fxa_3 fxa_4 fxa_5 l_xa_0
  have z3 := c3.size
  try simp only [World.size_alloc, World.size_setCell, size_drew] at z3
  have xa_ : Box w3 (w.heap.size) #[(.slice aA0 an0 ac0), (.slice aA1 an1 ac1), (.slice aA2 an2 ac2), (.slice aA3 an3 ac3), (.slice aA4 an4 ac4), (.slice aA5 an5 ac5)] 68 := xa.chg c3 (by omega)
  clear xa; have xa := xa_; clear xa_
  obtain ⟨cxa_0, cxa_1, cxa_2, cxa_3, cxa_4, cxa_5, fxa_0, fxa_1, fxa_2, fxa_3, fxa_4, fxa_5⟩ := xa.six
  have l_xa_0 : w.heap.size < w3.heap.size := by omega
  go_wp2
  go_ret
  refine ⟨ret_int (by omega), by simpa using h, ?_⟩
  exact (Chg.trans (Chg.trans (Chg.of_alloc _ c1) c2) c3)
set_option maxRecDepth 100000 in
set_option maxHeartbeats 1000000 in
theorem markTriple_L {lo hi : Nat} {aA0 : Option Addr} {an0 ac0 : Nat} {aL0 : List Int} {aA1 : Option Addr} {an1 ac1 : Nat} {aL1 : List Int} {aA2 : Option Addr} {an2 ac2 : Nat} {aL2 : List Int} {aA3 : Option Addr} {an3 ac3 : Nat} {aL3 : List Int} {aA4 : Option Addr} {an4 ac4 : Nat} {aL4 : List Int} {aA5 : Option Addr} {an5 ac5 : Nat} {aL5 : List Int} {w : World} (k0 : Nat) (K : Int) (h : OwnL w lo hi [((.slice aA0 an0 ac0), .ints aL0), ((.slice aA1 an1 ac1), .ints aL1), ((.slice aA2 an2 ac2), .ints aL2), ((.slice aA3 an3 ac3), .ints aL3), ((.slice aA4 an4 ac4), .ints aL4), ((.slice aA5 an5 ac5), .ints aL5)]) (hK : K = k0) (hk : k0 ≤ 100000000000) (aL0n : aL0.length ≤ 1048576) (aL1n : aL1.length ≤ 1048576) (aL2n : aL2.length ≤ 1048576) (aL3n : aL3.length ≤ 1048576) (aL4n : aL4.length ≤ 1048576) (aL5n : aL5.length ≤ 1048576) :
    Calls Try.prog 83 #[.agg #[(.slice aA0 an0 ac0), (.slice aA1 an1 ac1), (.slice aA2 an2 ac2), (.slice aA3 an3 ac3), (.slice aA4 an4 ac4), (.slice aA5 an5 ac5)], .int .i64 K] w fun e w' => e = .returned (.int .i64 (((k0 + (aL0.length + aL1.length + aL2.length + aL3.length + aL4.length + aL5.length) : Nat) : Int))) ∧ OwnL w' lo hi (((.slice aA0 an0 ac0), .ints (seqL (k0) aL0.length)) :: ((.slice aA1 an1 ac1), .ints (seqL (k0 + aL0.length) aL1.length)) :: ((.slice aA2 an2 ac2), .ints (seqL (k0 + aL0.length + aL1.length) aL2.length)) :: ((.slice aA3 an3 ac3), .ints (seqL (k0 + aL0.length + aL1.length + aL2.length) aL3.length)) :: ((.slice aA4 an4 ac4), .ints (seqL (k0 + aL0.length + aL1.length + aL2.length + aL3.length) aL4.length)) :: ((.slice aA5 an5 ac5), .ints (seqL (k0 + aL0.length + aL1.length + aL2.length + aL3.length + aL4.length) aL5.length)) :: []) ∧ Chg lo hi w w' := by
  exact markTriple_P (pre := []) (post := [])  k0 K h hK hk aL0n aL1n aL2n aL3n aL4n aL5n
set_option maxRecDepth 100000 in
set_option maxHeartbeats 1000000 in
theorem heldTriple_L {aA0 : Option Addr} {an0 ac0 : Nat} {aA1 : Option Addr} {an1 ac1 : Nat} {aA2 : Option Addr} {an2 ac2 : Nat} {aA3 : Option Addr} {an3 ac3 : Nat} {aA4 : Option Addr} {an4 ac4 : Nat} {aA5 : Option Addr} {an5 ac5 : Nat} {w : World} (m0 m1 m2 m3 m4 m5 : Nat) (k0 : Nat) (K : Int) (h : RdL w [((.slice aA0 an0 ac0), .ints (seqL (k0) m0)), ((.slice aA1 an1 ac1), .ints (seqL (k0 + m0) m1)), ((.slice aA2 an2 ac2), .ints (seqL (k0 + m0 + m1) m2)), ((.slice aA3 an3 ac3), .ints (seqL (k0 + m0 + m1 + m2) m3)), ((.slice aA4 an4 ac4), .ints (seqL (k0 + m0 + m1 + m2 + m3) m4)), ((.slice aA5 an5 ac5), .ints (seqL (k0 + m0 + m1 + m2 + m3 + m4) m5))]) (hK : K = k0) (hk : k0 ≤ 100000000000) (hm0 : m0 ≤ 1048576) (hm1 : m1 ≤ 1048576) (hm2 : m2 ≤ 1048576) (hm3 : m3 ≤ 1048576) (hm4 : m4 ≤ 1048576) (hm5 : m5 ≤ 1048576) :
    Calls Try.prog 85 #[.agg #[(.slice aA0 an0 ac0), (.slice aA1 an1 ac1), (.slice aA2 an2 ac2), (.slice aA3 an3 ac3), (.slice aA4 an4 ac4), (.slice aA5 an5 ac5)], .int .i64 K] w fun e w' => e = .returned (.int .i64 (((k0 + (m0 + m1 + m2 + m3 + m4 + m5) : Nat) : Int))) ∧ Below w.heap.size w w' := by
  subst hK
  go_enter Try.func85, Try.ntmps85
  go_wp2_with fail
  refine (heldAuth_L m0 m1 (k0) _ (RdL.below (ls := [((.slice aA0 an0 ac0), .ints (seqL (k0) m0)), ((.slice aA1 an1 ac1), .ints (seqL (k0 + m0) m1))]) (RdL.sub h (by simp)) (by repeat (with_reducible (first | assumption | exact Below.refl _ _ | refine Below.alloc ?_ (by first | omega | (simp; done) | (simp; omega)) _ | refine Below.setCell ?_ (by first | omega | (simp; done) | (simp; omega)) _ | refine Below.drew ?_ | refine below_drewN ?_ _)))) (by first | omega | (simp [size_drew]; done) | (simp [size_drew]; omega)) (by omega) hm0 hm1).mono ?_
  rintro e w1 ⟨rfl, b1⟩
  have z1 := b1.size
  try simp only [World.size_alloc, World.size_setCell, size_drew] at z1
  have B1 : Below w.heap.size w w1 := Below.trans (b := _) (by repeat (with_reducible (first | assumption | exact Below.refl _ _ | refine Below.alloc ?_ (by first | omega | (simp; done) | (simp; omega)) _ | refine Below.setCell ?_ (by first | omega | (simp; done) | (simp; omega)) _ | refine Below.drew ?_ | refine below_drewN ?_ _))) (b1.mono (by first | omega | (simp [size_drew]; done) | (simp [size_drew]; omega)))
  have xa_ : Box w1 (w.heap.size) #[(.slice aA0 an0 ac0), (.slice aA1 an1 ac1), (.slice aA2 an2 ac2), (.slice aA3 an3 ac3), (.slice aA4 an4 ac4), (.slice aA5 an5 ac5)] 68 := (Box.new (g := w.heap.size) _ #[(.slice aA0 an0 ac0), (.slice aA1 an1 ac1), (.slice aA2 an2 ac2), (.slice aA3 an3 ac3), (.slice aA4 an4 ac4), (.slice aA5 an5 ac5)] 68 (by simp)).below b1 (by first | omega | (simp [size_drew]; done) | (simp [size_drew]; omega))
  have xa := xa_; clear xa_
  obtain ⟨cxa_0, cxa_1, cxa_2, cxa_3, cxa_4, cxa_5, fxa_0, fxa_1, fxa_2, fxa_3, fxa_4, fxa_5⟩ := xa.six
  have l_xa_0 : w.heap.size < w1.heap.size := by omega
  go_wp2_with fail
  refine (heldAuth_L m2 m3 (k0 + m0 + m1) _ (RdL.below (ls := [((.slice aA2 an2 ac2), .ints (seqL (k0 + m0 + m1) m2)), ((.slice aA3 an3 ac3), .ints (seqL (k0 + m0 + m1 + m2) m3))]) (RdL.sub h (by simp)) (by repeat (with_reducible (first | assumption | exact Below.refl _ _ | refine Below.alloc ?_ (by first | omega | (simp; done) | (simp; omega)) _ | refine Below.setCell ?_ (by first | omega | (simp; done) | (simp; omega)) _ | refine Below.drew ?_ | refine below_drewN ?_ _)))) (by first | omega | (simp [size_drew]; done) | (simp [size_drew]; omega)) (by omega) hm2 hm3).mono ?_
  rintro e w2 ⟨rfl, b2⟩
  clear cxa_0 cxa_1 cxa_2 cxa_3 cxa_4 cxa_5 fxa_0 fxa_1 fxa_2 fxa_3 fxa_4 fxa_5 l_xa_0
  have z2 := b2.size
  try simp only [World.size_alloc, World.size_setCell, size_drew] at z2
  have B2 : Below w.heap.size w w2 := Below.trans (b := _) (by repeat (with_reducible (first | assumption | exact Below.refl _ _ | refine Below.alloc ?_ (by first | omega | (simp; done) | (simp; omega)) _ | refine Below.setCell ?_ (by first | omega | (simp; done) | (simp; omega)) _ | refine Below.drew ?_ | refine below_drewN ?_ _))) (b2.mono (by first | omega | (simp [size_drew]; done) | (simp [size_drew]; omega)))
  have xa_ : Box w2 (w.heap.size) #[(.slice aA0 an0 ac0), (.slice aA1 an1 ac1), (.slice aA2 an2 ac2), (.slice aA3 an3 ac3), (.slice aA4 an4 ac4), (.slice aA5 an5 ac5)] 68 := xa.below b2 (by first | omega | (simp [size_drew]; done) | (simp [size_drew]; omega))
  clear xa; have xa := xa_; clear xa_
  obtain ⟨cxa_0, cxa_1, cxa_2, cxa_3, cxa_4, cxa_5, fxa_0, fxa_1, fxa_2, fxa_3, fxa_4, fxa_5⟩ := xa.six
  have l_xa_0 : w.heap.size < w2.heap.size := by omega
  go_wp2_with fail
  refine (heldAuth_L m4 m5 (k0 + m0 + m1 + m2 + m3) _ (RdL.below (ls := [((.slice aA4 an4 ac4), .ints (seqL (k0 + m0 + m1 + m2 + m3) m4)), ((.slice aA5 an5 ac5), .ints (seqL (k0 + m0 + m1 + m2 + m3 + m4) m5))]) (RdL.sub h (by simp)) (by repeat (with_reducible (first | assumption | exact Below.refl _ _ | refine Below.alloc ?_ (by first | omega | (simp; done) | (simp; omega)) _ | refine Below.setCell ?_ (by first | omega | (simp; done) | (simp; omega)) _ | refine Below.drew ?_ | refine below_drewN ?_ _)))) (by first | omega | (simp [size_drew]; done) | (simp [size_drew]; omega)) (by omega) hm4 hm5).mono ?_
  rintro e w3 ⟨rfl, b3⟩
  clear cxa_0 cxa_1 cxa_2 cxa_3 cxa_4 cxa_5 fxa_0 fxa_1 fxa_2 fxa_3 fxa_4 fxa_5 l_xa_0
  have z3 := b3.size
  try simp only [World.size_alloc, World.size_setCell, size_drew] at z3
  have B3 : Below w.heap.size w w3 := Below.trans (b := _) (by repeat (with_reducible (first | assumption | exact Below.refl _ _ | refine Below.alloc ?_ (by first | omega | (simp; done) | (simp; omega)) _ | refine Below.setCell ?_ (by first | omega | (simp; done) | (simp; omega)) _ | refine Below.drew ?_ | refine below_drewN ?_ _))) (b3.mono (by first | omega | (simp [size_drew]; done) | (simp [size_drew]; omega)))
  have xa_ : Box w3 (w.heap.size) #[(.slice aA0 an0 ac0), (.slice aA1 an1 ac1), (.slice aA2 an2 ac2), (.slice aA3 an3 ac3), (.slice aA4 an4 ac4), (.slice aA5 an5 ac5)] 68 := xa.below b3 (by first | omega | (simp [size_drew]; done) | (simp [size_drew]; omega))
  clear xa; have xa := xa_; clear xa_
  go_wp2
  go_ret
  refine ⟨ret_int (by omega), ?_⟩
  repeat (with_reducible (first | assumption | exact Below.refl _ _ | refine Below.alloc ?_ (by first | omega | (simp; done) | (simp; omega)) _ | refine Below.setCell ?_ (by first | omega | (simp; done) | (simp; omega)) _ | refine Below.drew ?_ | refine below_drewN ?_ _))
set_option maxRecDepth 100000 in
set_option maxHeartbeats 1000000 in
theorem szKeys_yes {aA1 : Option Addr} {an1 ac1 : Nat} {aL1 : List Int} {w : World} (aI0 : Int) (aL1h : Rd0 w (.slice aA1 an1 ac1) aL1) (left : Nat) (K : Int) (hK : K = left) (hleft : left ≤ 1048576) (hle : aL1.length ≤ left) :
    Calls Try.prog 33 #[.agg #[.int .i64 aI0, (.slice aA1 an1 ac1)], .int .i64 K] w fun e w' => e = .returned (.int .i64 ((left - (aL1.length) : Nat) : Int)) ∧ Below w.heap.size w w' := by
  subst hK
  go_enter Try.func33, Try.ntmps33
  go_wp2_with fail
  refine (szIntS_yes (aL1h.below (by repeat (with_reducible (first | assumption | exact Below.refl _ _ | refine Below.alloc ?_ (by first | omega | (simp; done) | (simp; omega)) _ | refine Below.setCell ?_ (by first | omega | (simp; done) | (simp; omega)) _ | refine Below.drew ?_ | refine below_drewN ?_ _)))) (left) _ (by first | rfl | simp) (by omega) (by omega)).mono ?_
  rintro e w1 ⟨rfl, b1⟩
  have z1 := b1.size
  try simp only [World.size_alloc, World.size_setCell, size_drew] at z1
  have B1 : Below w.heap.size w w1 := Below.trans (b := _) (by repeat (with_reducible (first | assumption | exact Below.refl _ _ | refine Below.alloc ?_ (by first | omega | (simp; done) | (simp; omega)) _ | refine Below.setCell ?_ (by first | omega | (simp; done) | (simp; omega)) _ | refine Below.drew ?_ | refine below_drewN ?_ _))) (b1.mono (by first | omega | (simp [size_drew]; done) | (simp [size_drew]; omega)))
  have xa_ : Box w1 (w.heap.size) #[.int .i64 aI0, (.slice aA1 an1 ac1)] 30 := (Box.new (g := w.heap.size) _ #[.int .i64 aI0, (.slice aA1 an1 ac1)] 30 (by simp)).below b1 (by first | omega | (simp [size_drew]; done) | (simp [size_drew]; omega))
  have xa := xa_; clear xa_
  go_wp2
  go_ret
  refine ⟨ret_int (by omega), ?_⟩
  repeat (with_reducible (first | assumption | exact Below.refl _ _ | refine Below.alloc ?_ (by first | omega | (simp; done) | (simp; omega)) _ | refine Below.setCell ?_ (by first | omega | (simp; done) | (simp; omega)) _ | refine Below.drew ?_ | refine below_drewN ?_ _))
set_option maxRecDepth 100000 in
set_option maxHeartbeats 1000000 in
theorem szKeys_no {aA1 : Option Addr} {an1 ac1 : Nat} {aL1 : List Int} {w : World} (aI0 : Int) (aL1h : Rd0 w (.slice aA1 an1 ac1) aL1) (left : Nat) (K : Int) (hK : K = left) (hleft : left ≤ 1048576) (hle : ¬ aL1.length ≤ left) :
    Calls Try.prog 33 #[.agg #[.int .i64 aI0, (.slice aA1 an1 ac1)], .int .i64 K] w fun e w' => e = .returned (.int .i64 (-1)) ∧ Below w.heap.size w w' := by
  subst hK
  go_enter Try.func33, Try.ntmps33
  go_wp2_with fail
  refine (szIntS_no (aL1h.below (by repeat (with_reducible (first | assumption | exact Below.refl _ _ | refine Below.alloc ?_ (by first | omega | (simp; done) | (simp; omega)) _ | refine Below.setCell ?_ (by first | omega | (simp; done) | (simp; omega)) _ | refine Below.drew ?_ | refine below_drewN ?_ _)))) (left) _ (by first | rfl | simp) (by omega) (by omega)).mono ?_
  rintro e w1 ⟨rfl, b1⟩
  have z1 := b1.size
  try simp only [World.size_alloc, World.size_setCell, size_drew] at z1
  have B1 : Below w.heap.size w w1 := Below.trans (b := _) (by repeat (with_reducible (first | assumption | exact Below.refl _ _ | refine Below.alloc ?_ (by first | omega | (simp; done) | (simp; omega)) _ | refine Below.setCell ?_ (by first | omega | (simp; done) | (simp; omega)) _ | refine Below.drew ?_ | refine below_drewN ?_ _))) (b1.mono (by first | omega | (simp [size_drew]; done) | (simp [size_drew]; omega)))
  have xa_ : Box w1 (w.heap.size) #[.int .i64 aI0, (.slice aA1 an1 ac1)] 30 := (Box.new (g := w.heap.size) _ #[.int .i64 aI0, (.slice aA1 an1 ac1)] 30 (by simp)).below b1 (by first | omega | (simp [size_drew]; done) | (simp [size_drew]; omega))
  have xa := xa_; clear xa_
  go_wp2
  go_ret
  refine ⟨rfl, ?_⟩
  repeat (with_reducible (first | assumption | exact Below.refl _ _ | refine Below.alloc ?_ (by first | omega | (simp; done) | (simp; omega)) _ | refine Below.setCell ?_ (by first | omega | (simp; done) | (simp; omega)) _ | refine Below.drew ?_ | refine below_drewN ?_ _))
set_option maxRecDepth 100000 in
set_option maxHeartbeats 1000000 in
theorem szAuth_yes {aA0 : Option Addr} {an0 ac0 : Nat} {aL0 : List Int} {aA1 : Option Addr} {an1 ac1 : Nat} {aL1 : List Int} {w : World} (aL0h : Rd0 w (.slice aA0 an0 ac0) aL0) (aL1h : Rd0 w (.slice aA1 an1 ac1) aL1) (left : Nat) (K : Int) (hK : K = left) (hleft : left ≤ 1048576) (hle : aL0.length + aL1.length ≤ left) :
    Calls Try.prog 40 #[.agg #[(.slice aA0 an0 ac0), (.slice aA1 an1 ac1)], .int .i64 K] w fun e w' => e = .returned (.int .i64 ((left - (aL0.length + aL1.length) : Nat) : Int)) ∧ Below w.heap.size w w' := by
  subst hK
  go_enter Try.func40, Try.ntmps40
  go_wp2_with fail
  refine (szIntS_yes (aL0h.below (by repeat (with_reducible (first | assumption | exact Below.refl _ _ | refine Below.alloc ?_ (by first | omega | (simp; done) | (simp; omega)) _ | refine Below.setCell ?_ (by first | omega | (simp; done) | (simp; omega)) _ | refine Below.drew ?_ | refine below_drewN ?_ _)))) (left) _ (by first | rfl | simp) (by omega) (by omega)).mono ?_
  rintro e w1 ⟨rfl, b1⟩
  have z1 := b1.size
  try simp only [World.size_alloc, World.size_setCell, size_drew] at z1
  have B1 : Below w.heap.size w w1 := Below.trans (b := _) (by repeat (with_reducible (first | assumption | exact Below.refl _ _ | refine Below.alloc ?_ (by first | omega | (simp; done) | (simp; omega)) _ | refine Below.setCell ?_ (by first | omega | (simp; done) | (simp; omega)) _ | refine Below.drew ?_ | refine below_drewN ?_ _))) (b1.mono (by first | omega | (simp [size_drew]; done) | (simp [size_drew]; omega)))
  have xa_ : Box w1 (w.heap.size) #[(.slice aA0 an0 ac0), (.slice aA1 an1 ac1)] 44 := (Box.new (g := w.heap.size) _ #[(.slice aA0 an0 ac0), (.slice aA1 an1 ac1)] 44 (by simp)).below b1 (by first | omega | (simp [size_drew]; done) | (simp [size_drew]; omega))
  have xa := xa_; clear xa_
  obtain ⟨cxa_0, cxa_1, fxa_0, fxa_1⟩ := xa.two
  have l_xa_0 : w.heap.size < w1.heap.size := by omega
  go_wp2_with fail
  refine (szIntS_yes (aL1h.below (by repeat (with_reducible (first | assumption | exact Below.refl _ _ | refine Below.alloc ?_ (by first | omega | (simp; done) | (simp; omega)) _ | refine Below.setCell ?_ (by first | omega | (simp; done) | (simp; omega)) _ | refine Below.drew ?_ | refine below_drewN ?_ _)))) (left - (aL0.length)) _ (by first | rfl | simp) (by omega) (by omega)).mono ?_
  rintro e w2 ⟨rfl, b2⟩
  clear cxa_0 cxa_1 fxa_0 fxa_1 l_xa_0
  have z2 := b2.size
  try simp only [World.size_alloc, World.size_setCell, size_drew] at z2
  have B2 : Below w.heap.size w w2 := Below.trans (b := _) (by repeat (with_reducible (first | assumption | exact Below.refl _ _ | refine Below.alloc ?_ (by first | omega | (simp; done) | (simp; omega)) _ | refine Below.setCell ?_ (by first | omega | (simp; done) | (simp; omega)) _ | refine Below.drew ?_ | refine below_drewN ?_ _))) (b2.mono (by first | omega | (simp [size_drew]; done) | (simp [size_drew]; omega)))
  have xa_ : Box w2 (w.heap.size) #[(.slice aA0 an0 ac0), (.slice aA1 an1 ac1)] 44 := xa.below b2 (by first | omega | (simp [size_drew]; done) | (simp [size_drew]; omega))
  clear xa; have xa := xa_; clear xa_
  go_wp2
  go_ret
  refine ⟨ret_int (by omega), ?_⟩
  repeat (with_reducible (first | assumption | exact Below.refl _ _ | refine Below.alloc ?_ (by first | omega | (simp; done) | (simp; omega)) _ | refine Below.setCell ?_ (by first | omega | (simp; done) | (simp; omega)) _ | refine Below.drew ?_ | refine below_drewN ?_ _))
set_option maxRecDepth 100000 in
set_option maxHeartbeats 1000000 in
theorem szAuth_no {aA0 : Option Addr} {an0 ac0 : Nat} {aL0 : List Int} {aA1 : Option Addr} {an1 ac1 : Nat} {aL1 : List Int} {w : World} (aL0h : Rd0 w (.slice aA0 an0 ac0) aL0) (aL1h : Rd0 w (.slice aA1 an1 ac1) aL1) (left : Nat) (K : Int) (hK : K = left) (hleft : left ≤ 1048576) (hle : ¬ aL0.length + aL1.length ≤ left) :
    Calls Try.prog 40 #[.agg #[(.slice aA0 an0 ac0), (.slice aA1 an1 ac1)], .int .i64 K] w fun e w' => e = .returned (.int .i64 (-1)) ∧ Below w.heap.size w w' := by
  subst hK
  by_cases q0 : aL0.length ≤ left
  rotate_left
  · go_enter Try.func40, Try.ntmps40
    go_wp2_with fail
    refine (szIntS_no (aL0h.below (by repeat (with_reducible (first | assumption | exact Below.refl _ _ | refine Below.alloc ?_ (by first | omega | (simp; done) | (simp; omega)) _ | refine Below.setCell ?_ (by first | omega | (simp; done) | (simp; omega)) _ | refine Below.drew ?_ | refine below_drewN ?_ _)))) (left) _ (by first | rfl | simp) (by omega) (by omega)).mono ?_
    rintro e w1 ⟨rfl, b1⟩
    have z1 := b1.size
    try simp only [World.size_alloc, World.size_setCell, size_drew] at z1
    have B1 : Below w.heap.size w w1 := Below.trans (b := _) (by repeat (with_reducible (first | assumption | exact Below.refl _ _ | refine Below.alloc ?_ (by first | omega | (simp; done) | (simp; omega)) _ | refine Below.setCell ?_ (by first | omega | (simp; done) | (simp; omega)) _ | refine Below.drew ?_ | refine below_drewN ?_ _))) (b1.mono (by first | omega | (simp [size_drew]; done) | (simp [size_drew]; omega)))
    have xa_ : Box w1 (w.heap.size) #[(.slice aA0 an0 ac0), (.slice aA1 an1 ac1)] 44 := (Box.new (g := w.heap.size) _ #[(.slice aA0 an0 ac0), (.slice aA1 an1 ac1)] 44 (by simp)).below b1 (by first | omega | (simp [size_drew]; done) | (simp [size_drew]; omega))
    have xa := xa_; clear xa_
    go_wp2
    go_ret
    refine ⟨rfl, ?_⟩
    repeat (with_reducible (first | assumption | exact Below.refl _ _ | refine Below.alloc ?_ (by first | omega | (simp; done) | (simp; omega)) _ | refine Below.setCell ?_ (by first | omega | (simp; done) | (simp; omega)) _ | refine Below.drew ?_ | refine below_drewN ?_ _))
  go_enter Try.func40, Try.ntmps40
  go_wp2_with fail
  refine (szIntS_yes (aL0h.below (by repeat (with_reducible (first | assumption | exact Below.refl _ _ | refine Below.alloc ?_ (by first | omega | (simp; done) | (simp; omega)) _ | refine Below.setCell ?_ (by first | omega | (simp; done) | (simp; omega)) _ | refine Below.drew ?_ | refine below_drewN ?_ _)))) (left) _ (by first | rfl | simp) (by omega) (by omega)).mono ?_
  rintro e w1 ⟨rfl, b1⟩
  have z1 := b1.size
  try simp only [World.size_alloc, World.size_setCell, size_drew] at z1
  have B1 : Below w.heap.size w w1 := Below.trans (b := _) (by repeat (with_reducible (first | assumption | exact Below.refl _ _ | refine Below.alloc ?_ (by first | omega | (simp; done) | (simp; omega)) _ | refine Below.setCell ?_ (by first | omega | (simp; done) | (simp; omega)) _ | refine Below.drew ?_ | refine below_drewN ?_ _))) (b1.mono (by first | omega | (simp [size_drew]; done) | (simp [size_drew]; omega)))
  have xa_ : Box w1 (w.heap.size) #[(.slice aA0 an0 ac0), (.slice aA1 an1 ac1)] 44 := (Box.new (g := w.heap.size) _ #[(.slice aA0 an0 ac0), (.slice aA1 an1 ac1)] 44 (by simp)).below b1 (by first | omega | (simp [size_drew]; done) | (simp [size_drew]; omega))
  have xa := xa_; clear xa_
  obtain ⟨cxa_0, cxa_1, fxa_0, fxa_1⟩ := xa.two
  have l_xa_0 : w.heap.size < w1.heap.size := by omega
  go_wp2_with fail
  refine (szIntS_no (aL1h.below (by repeat (with_reducible (first | assumption | exact Below.refl _ _ | refine Below.alloc ?_ (by first | omega | (simp; done) | (simp; omega)) _ | refine Below.setCell ?_ (by first | omega | (simp; done) | (simp; omega)) _ | refine Below.drew ?_ | refine below_drewN ?_ _)))) (left - (aL0.length)) _ (by first | rfl | simp) (by omega) (by omega)).mono ?_
  rintro e w2 ⟨rfl, b2⟩
  clear cxa_0 cxa_1 fxa_0 fxa_1 l_xa_0
  have z2 := b2.size
  try simp only [World.size_alloc, World.size_setCell, size_drew] at z2
  have B2 : Below w.heap.size w w2 := Below.trans (b := _) (by repeat (with_reducible (first | assumption | exact Below.refl _ _ | refine Below.alloc ?_ (by first | omega | (simp; done) | (simp; omega)) _ | refine Below.setCell ?_ (by first | omega | (simp; done) | (simp; omega)) _ | refine Below.drew ?_ | refine below_drewN ?_ _))) (b2.mono (by first | omega | (simp [size_drew]; done) | (simp [size_drew]; omega)))
  have xa_ : Box w2 (w.heap.size) #[(.slice aA0 an0 ac0), (.slice aA1 an1 ac1)] 44 := xa.below b2 (by first | omega | (simp [size_drew]; done) | (simp [size_drew]; omega))
  clear xa; have xa := xa_; clear xa_
  go_wp2
  go_ret
  refine ⟨rfl, ?_⟩
  repeat (with_reducible (first | assumption | exact Below.refl _ _ | refine Below.alloc ?_ (by first | omega | (simp; done) | (simp; omega)) _ | refine Below.setCell ?_ (by first | omega | (simp; done) | (simp; omega)) _ | refine Below.drew ?_ | refine below_drewN ?_ _))
set_option maxRecDepth 100000 in
set_option maxHeartbeats 1000000 in
theorem szTriple_yes {aA0 : Option Addr} {an0 ac0 : Nat} {aL0 : List Int} {aA1 : Option Addr} {an1 ac1 : Nat} {aL1 : List Int} {aA2 : Option Addr} {an2 ac2 : Nat} {aL2 : List Int} {aA3 : Option Addr} {an3 ac3 : Nat} {aL3 : List Int} {aA4 : Option Addr} {an4 ac4 : Nat} {aL4 : List Int} {aA5 : Option Addr} {an5 ac5 : Nat} {aL5 : List Int} {w : World} (aL0h : Rd0 w (.slice aA0 an0 ac0) aL0) (aL1h : Rd0 w (.slice aA1 an1 ac1) aL1) (aL2h : Rd0 w (.slice aA2 an2 ac2) aL2) (aL3h : Rd0 w (.slice aA3 an3 ac3) aL3) (aL4h : Rd0 w (.slice aA4 an4 ac4) aL4) (aL5h : Rd0 w (.slice aA5 an5 ac5) aL5) (left : Nat) (K : Int) (hK : K = left) (hleft : left ≤ 1048576) (hle : aL0.length + aL1.length + aL2.length + aL3.length + aL4.length + aL5.length ≤ left) :
    Calls Try.prog 58 #[.agg #[(.slice aA0 an0 ac0), (.slice aA1 an1 ac1), (.slice aA2 an2 ac2), (.slice aA3 an3 ac3), (.slice aA4 an4 ac4), (.slice aA5 an5 ac5)], .int .i64 K] w fun e w' => e = .returned (.int .i64 ((left - (aL0.length + aL1.length + aL2.length + aL3.length + aL4.length + aL5.length) : Nat) : Int)) ∧ Below w.heap.size w w' := by
  subst hK
  go_enter Try.func58, Try.ntmps58
  go_wp2_with fail
  refine (szAuth_yes (aL0h.below (by repeat (with_reducible (first | assumption | exact Below.refl _ _ | refine Below.alloc ?_ (by first | omega | (simp; done) | (simp; omega)) _ | refine Below.setCell ?_ (by first | omega | (simp; done) | (simp; omega)) _ | refine Below.drew ?_ | refine below_drewN ?_ _)))) (aL1h.below (by repeat (with_reducible (first | assumption | exact Below.refl _ _ | refine Below.alloc ?_ (by first | omega | (simp; done) | (simp; omega)) _ | refine Below.setCell ?_ (by first | omega | (simp; done) | (simp; omega)) _ | refine Below.drew ?_ | refine below_drewN ?_ _)))) (left) _ (by first | rfl | simp) (by omega) (by omega)).mono ?_
  rintro e w1 ⟨rfl, b1⟩
  have z1 := b1.size
  try simp only [World.size_alloc, World.size_setCell, size_drew] at z1
  have B1 : Below w.heap.size w w1 := Below.trans (b := _) (by repeat (with_reducible (first | assumption | exact Below.refl _ _ | refine Below.alloc ?_ (by first | omega | (simp; done) | (simp; omega)) _ | refine Below.setCell ?_ (by first | omega | (simp; done) | (simp; omega)) _ | refine Below.drew ?_ | refine below_drewN ?_ _))) (b1.mono (by first | omega | (simp [size_drew]; done) | (simp [size_drew]; omega)))
  have xa_ : Box w1 (w.heap.size) #[(.slice aA0 an0 ac0), (.slice aA1 an1 ac1), (.slice aA2 an2 ac2), (.slice aA3 an3 ac3), (.slice aA4 an4 ac4), (.slice aA5 an5 ac5)] 64 := (Box.new (g := w.heap.size) _ #[(.slice aA0 an0 ac0), (.slice aA1 an1 ac1), (.slice aA2 an2 ac2), (.slice aA3 an3 ac3), (.slice aA4 an4 ac4), (.slice aA5 an5 ac5)] 64 (by simp)).below b1 (by first | omega | (simp [size_drew]; done) | (simp [size_drew]; omega))
  have xa := xa_; clear xa_
  obtain ⟨cxa_0, cxa_1, cxa_2, cxa_3, cxa_4, cxa_5, fxa_0, fxa_1, fxa_2, fxa_3, fxa_4, fxa_5⟩ := xa.six
  have l_xa_0 : w.heap.size < w1.heap.size := by omega
  go_wp2_with fail
  refine (szAuth_yes (aL2h.below (by repeat (with_reducible (first | assumption | exact Below.refl _ _ | refine Below.alloc ?_ (by first | omega | (simp; done) | (simp; omega)) _ | refine Below.setCell ?_ (by first | omega | (simp; done) | (simp; omega)) _ | refine Below.drew ?_ | refine below_drewN ?_ _)))) (aL3h.below (by repeat (with_reducible (first | assumption | exact Below.refl _ _ | refine Below.alloc ?_ (by first | omega | (simp; done) | (simp; omega)) _ | refine Below.setCell ?_ (by first | omega | (simp; done) | (simp; omega)) _ | refine Below.drew ?_ | refine below_drewN ?_ _)))) (left - (aL0.length + aL1.length)) _ (by first | rfl | simp) (by omega) (by omega)).mono ?_
  rintro e w2 ⟨rfl, b2⟩
  clear cxa_0 cxa_1 cxa_2 cxa_3 cxa_4 cxa_5 fxa_0 fxa_1 fxa_2 fxa_3 fxa_4 fxa_5 l_xa_0
  have z2 := b2.size
  try simp only [World.size_alloc, World.size_setCell, size_drew] at z2
  have B2 : Below w.heap.size w w2 := Below.trans (b := _) (by repeat (with_reducible (first | assumption | exact Below.refl _ _ | refine Below.alloc ?_ (by first | omega | (simp; done) | (simp; omega)) _ | refine Below.setCell ?_ (by first | omega | (simp; done) | (simp; omega)) _ | refine Below.drew ?_ | refine below_drewN ?_ _))) (b2.mono (by first | omega | (simp [size_drew]; done) | (simp [size_drew]; omega)))
  have xa_ : Box w2 (w.heap.size) #[(.slice aA0 an0 ac0), (.slice aA1 an1 ac1), (.slice aA2 an2 ac2), (.slice aA3 an3 ac3), (.slice aA4 an4 ac4), (.slice aA5 an5 ac5)] 64 := xa.below b2 (by first | omega | (simp [size_drew]; done) | (simp [size_drew]; omega))
  clear xa; have xa := xa_; clear xa_
  obtain ⟨cxa_0, cxa_1, cxa_2, cxa_3, cxa_4, cxa_5, fxa_0, fxa_1, fxa_2, fxa_3, fxa_4, fxa_5⟩ := xa.six
  have l_xa_0 : w.heap.size < w2.heap.size := by omega
  go_wp2_with fail
  refine (szAuth_yes (aL4h.below (by repeat (with_reducible (first | assumption | exact Below.refl _ _ | refine Below.alloc ?_ (by first | omega | (simp; done) | (simp; omega)) _ | refine Below.setCell ?_ (by first | omega | (simp; done) | (simp; omega)) _ | refine Below.drew ?_ | refine below_drewN ?_ _)))) (aL5h.below (by repeat (with_reducible (first | assumption | exact Below.refl _ _ | refine Below.alloc ?_ (by first | omega | (simp; done) | (simp; omega)) _ | refine Below.setCell ?_ (by first | omega | (simp; done) | (simp; omega)) _ | refine Below.drew ?_ | refine below_drewN ?_ _)))) (left - (aL0.length + aL1.length) - (aL2.length + aL3.length)) _ (by first | rfl | simp) (by omega) (by omega)).mono ?_
  rintro e w3 ⟨rfl, b3⟩
  clear cxa_0 cxa_1 cxa_2 cxa_3 cxa_4 cxa_5 fxa_0 fxa_1 fxa_2 fxa_3 fxa_4 fxa_5 l_xa_0
  have z3 := b3.size
  try simp only [World.size_alloc, World.size_setCell, size_drew] at z3
  have B3 : Below w.heap.size w w3 := Below.trans (b := _) (by repeat (with_reducible (first | assumption | exact Below.refl _ _ | refine Below.alloc ?_ (by first | omega | (simp; done) | (simp; omega)) _ | refine Below.setCell ?_ (by first | omega | (simp; done) | (simp; omega)) _ | refine Below.drew ?_ | refine below_drewN ?_ _))) (b3.mono (by first | omega | (simp [size_drew]; done) | (simp [size_drew]; omega)))
  have xa_ : Box w3 (w.heap.size) #[(.slice aA0 an0 ac0), (.slice aA1 an1 ac1), (.slice aA2 an2 ac2), (.slice aA3 an3 ac3), (.slice aA4 an4 ac4), (.slice aA5 an5 ac5)] 64 := xa.below b3 (by first | omega | (simp [size_drew]; done) | (simp [size_drew]; omega))
  clear xa; have xa := xa_; clear xa_
  go_wp2
  go_ret
  refine ⟨ret_int (by omega), ?_⟩
  repeat (with_reducible (first | assumption | exact Below.refl _ _ | refine Below.alloc ?_ (by first | omega | (simp; done) | (simp; omega)) _ | refine Below.setCell ?_ (by first | omega | (simp; done) | (simp; omega)) _ | refine Below.drew ?_ | refine below_drewN ?_ _))
set_option maxRecDepth 100000 in
set_option maxHeartbeats 1000000 in
theorem szTriple_no {aA0 : Option Addr} {an0 ac0 : Nat} {aL0 : List Int} {aA1 : Option Addr} {an1 ac1 : Nat} {aL1 : List Int} {aA2 : Option Addr} {an2 ac2 : Nat} {aL2 : List Int} {aA3 : Option Addr} {an3 ac3 : Nat} {aL3 : List Int} {aA4 : Option Addr} {an4 ac4 : Nat} {aL4 : List Int} {aA5 : Option Addr} {an5 ac5 : Nat} {aL5 : List Int} {w : World} (aL0h : Rd0 w (.slice aA0 an0 ac0) aL0) (aL1h : Rd0 w (.slice aA1 an1 ac1) aL1) (aL2h : Rd0 w (.slice aA2 an2 ac2) aL2) (aL3h : Rd0 w (.slice aA3 an3 ac3) aL3) (aL4h : Rd0 w (.slice aA4 an4 ac4) aL4) (aL5h : Rd0 w (.slice aA5 an5 ac5) aL5) (left : Nat) (K : Int) (hK : K = left) (hleft : left ≤ 1048576) (hle : ¬ aL0.length + aL1.length + aL2.length + aL3.length + aL4.length + aL5.length ≤ left) :
    Calls Try.prog 58 #[.agg #[(.slice aA0 an0 ac0), (.slice aA1 an1 ac1), (.slice aA2 an2 ac2), (.slice aA3 an3 ac3), (.slice aA4 an4 ac4), (.slice aA5 an5 ac5)], .int .i64 K] w fun e w' => e = .returned (.int .i64 (-1)) ∧ Below w.heap.size w w' := by
  subst hK
  by_cases q0 : aL0.length + aL1.length ≤ left
  rotate_left
  · go_enter Try.func58, Try.ntmps58
    go_wp2_with fail
    refine (szAuth_no (aL0h.below (by repeat (with_reducible (first | assumption | exact Below.refl _ _ | refine Below.alloc ?_ (by first | omega | (simp; done) | (simp; omega)) _ | refine Below.setCell ?_ (by first | omega | (simp; done) | (simp; omega)) _ | refine Below.drew ?_ | refine below_drewN ?_ _)))) (aL1h.below (by repeat (with_reducible (first | assumption | exact Below.refl _ _ | refine Below.alloc ?_ (by first | omega | (simp; done) | (simp; omega)) _ | refine Below.setCell ?_ (by first | omega | (simp; done) | (simp; omega)) _ | refine Below.drew ?_ | refine below_drewN ?_ _)))) (left) _ (by first | rfl | simp) (by omega) (by omega)).mono ?_
    rintro e w1 ⟨rfl, b1⟩
    have z1 := b1.size
    try simp only [World.size_alloc, World.size_setCell, size_drew] at z1
    have B1 : Below w.heap.size w w1 := Below.trans (b := _) (by repeat (with_reducible (first | assumption | exact Below.refl _ _ | refine Below.alloc ?_ (by first | omega | (simp; done) | (simp; omega)) _ | refine Below.setCell ?_ (by first | omega | (simp; done) | (simp; omega)) _ | refine Below.drew ?_ | refine below_drewN ?_ _))) (b1.mono (by first | omega | (simp [size_drew]; done) | (simp [size_drew]; omega)))
    have xa_ : Box w1 (w.heap.size) #[(.slice aA0 an0 ac0), (.slice aA1 an1 ac1), (.slice aA2 an2 ac2), (.slice aA3 an3 ac3), (.slice aA4 an4 ac4), (.slice aA5 an5 ac5)] 64 := (Box.new (g := w.heap.size) _ #[(.slice aA0 an0 ac0), (.slice aA1 an1 ac1), (.slice aA2 an2 ac2), (.slice aA3 an3 ac3), (.slice aA4 an4 ac4), (.slice aA5 an5 ac5)] 64 (by simp)).below b1 (by first | omega | (simp [size_drew]; done) | (simp [size_drew]; omega))
    have xa := xa_; clear xa_
    go_wp2
    go_ret
    refine ⟨rfl, ?_⟩
    repeat (with_reducible (first | assumption | exact Below.refl _ _ | refine Below.alloc ?_ (by first | omega | (simp; done) | (simp; omega)) _ | refine Below.setCell ?_ (by first | omega | (simp; done) | (simp; omega)) _ | refine Below.drew ?_ | refine below_drewN ?_ _))
  by_cases q1 : aL0.length + aL1.length + aL2.length + aL3.length ≤ left
  rotate_left
  · go_enter Try.func58, Try.ntmps58
    go_wp2_with fail
    refine (szAuth_yes (aL0h.below (by repeat (with_reducible (first | assumption | exact Below.refl _ _ | refine Below.alloc ?_ (by first | omega | (simp; done) | (simp; omega)) _ | refine Below.setCell ?_ (by first | omega | (simp; done) | (simp; omega)) _ | refine Below.drew ?_ | refine below_drewN ?_ _)))) (aL1h.below (by repeat (with_reducible (first | assumption | exact Below.refl _ _ | refine Below.alloc ?_ (by first | omega | (simp; done) | (simp; omega)) _ | refine Below.setCell ?_ (by first | omega | (simp; done) | (simp; omega)) _ | refine Below.drew ?_ | refine below_drewN ?_ _)))) (left) _ (by first | rfl | simp) (by omega) (by omega)).mono ?_
    rintro e w1 ⟨rfl, b1⟩
    have z1 := b1.size
    try simp only [World.size_alloc, World.size_setCell, size_drew] at z1
    have B1 : Below w.heap.size w w1 := Below.trans (b := _) (by repeat (with_reducible (first | assumption | exact Below.refl _ _ | refine Below.alloc ?_ (by first | omega | (simp; done) | (simp; omega)) _ | refine Below.setCell ?_ (by first | omega | (simp; done) | (simp; omega)) _ | refine Below.drew ?_ | refine below_drewN ?_ _))) (b1.mono (by first | omega | (simp [size_drew]; done) | (simp [size_drew]; omega)))
    have xa_ : Box w1 (w.heap.size) #[(.slice aA0 an0 ac0), (.slice aA1 an1 ac1), (.slice aA2 an2 ac2), (.slice aA3 an3 ac3), (.slice aA4 an4 ac4), (.slice aA5 an5 ac5)] 64 := (Box.new (g := w.heap.size) _ #[(.slice aA0 an0 ac0), (.slice aA1 an1 ac1), (.slice aA2 an2 ac2), (.slice aA3 an3 ac3), (.slice aA4 an4 ac4), (.slice aA5 an5 ac5)] 64 (by simp)).below b1 (by first | omega | (simp [size_drew]; done) | (simp [size_drew]; omega))
    have xa := xa_; clear xa_
    obtain ⟨cxa_0, cxa_1, cxa_2, cxa_3, cxa_4, cxa_5, fxa_0, fxa_1, fxa_2, fxa_3, fxa_4, fxa_5⟩ := xa.six
    have l_xa_0 : w.heap.size < w1.heap.size := by omega
    go_wp2_with fail
    refine (szAuth_no (aL2h.below (by repeat (with_reducible (first | assumption | exact Below.refl _ _ | refine Below.alloc ?_ (by first | omega | (simp; done) | (simp; omega)) _ | refine Below.setCell ?_ (by first | omega | (simp; done) | (simp; omega)) _ | refine Below.drew ?_ | refine below_drewN ?_ _)))) (aL3h.below (by repeat (with_reducible (first | assumption | exact Below.refl _ _ | refine Below.alloc ?_ (by first | omega | (simp; done) | (simp; omega)) _ | refine Below.setCell ?_ (by first | omega | (simp; done) | (simp; omega)) _ | refine Below.drew ?_ | refine below_drewN ?_ _)))) (left - (aL0.length + aL1.length)) _ (by first | rfl | simp) (by omega) (by omega)).mono ?_
    rintro e w2 ⟨rfl, b2⟩
    clear cxa_0 cxa_1 cxa_2 cxa_3 cxa_4 cxa_5 fxa_0 fxa_1 fxa_2 fxa_3 fxa_4 fxa_5 l_xa_0
    have z2 := b2.size
    try simp only [World.size_alloc, World.size_setCell, size_drew] at z2
    have B2 : Below w.heap.size w w2 := Below.trans (b := _) (by repeat (with_reducible (first | assumption | exact Below.refl _ _ | refine Below.alloc ?_ (by first | omega | (simp; done) | (simp; omega)) _ | refine Below.setCell ?_ (by first | omega | (simp; done) | (simp; omega)) _ | refine Below.drew ?_ | refine below_drewN ?_ _))) (b2.mono (by first | omega | (simp [size_drew]; done) | (simp [size_drew]; omega)))
    have xa_ : Box w2 (w.heap.size) #[(.slice aA0 an0 ac0), (.slice aA1 an1 ac1), (.slice aA2 an2 ac2), (.slice aA3 an3 ac3), (.slice aA4 an4 ac4), (.slice aA5 an5 ac5)] 64 := xa.below b2 (by first | omega | (simp [size_drew]; done) | (simp [size_drew]; omega))
    clear xa; have xa := xa_; clear xa_
    go_wp2
    go_ret
    refine ⟨rfl, ?_⟩
    repeat (with_reducible (first | assumption | exact Below.refl _ _ | refine Below.alloc ?_ (by first | omega | (simp; done) | (simp; omega)) _ | refine Below.setCell ?_ (by first | omega | (simp; done) | (simp; omega)) _ | refine Below.drew ?_ | refine below_drewN ?_ _))
  go_enter Try.func58, Try.ntmps58
  go_wp2_with fail
  refine (szAuth_yes (aL0h.below (by repeat (with_reducible (first | assumption | exact Below.refl _ _ | refine Below.alloc ?_ (by first | omega | (simp; done) | (simp; omega)) _ | refine Below.setCell ?_ (by first | omega | (simp; done) | (simp; omega)) _ | refine Below.drew ?_ | refine below_drewN ?_ _)))) (aL1h.below (by repeat (with_reducible (first | assumption | exact Below.refl _ _ | refine Below.alloc ?_ (by first | omega | (simp; done) | (simp; omega)) _ | refine Below.setCell ?_ (by first | omega | (simp; done) | (simp; omega)) _ | refine Below.drew ?_ | refine below_drewN ?_ _)))) (left) _ (by first | rfl | simp) (by omega) (by omega)).mono ?_
  rintro e w1 ⟨rfl, b1⟩
  have z1 := b1.size
  try simp only [World.size_alloc, World.size_setCell, size_drew] at z1
  have B1 : Below w.heap.size w w1 := Below.trans (b := _) (by repeat (with_reducible (first | assumption | exact Below.refl _ _ | refine Below.alloc ?_ (by first | omega | (simp; done) | (simp; omega)) _ | refine Below.setCell ?_ (by first | omega | (simp; done) | (simp; omega)) _ | refine Below.drew ?_ | refine below_drewN ?_ _))) (b1.mono (by first | omega | (simp [size_drew]; done) | (simp [size_drew]; omega)))
  have xa_ : Box w1 (w.heap.size) #[(.slice aA0 an0 ac0), (.slice aA1 an1 ac1), (.slice aA2 an2 ac2), (.slice aA3 an3 ac3), (.slice aA4 an4 ac4), (.slice aA5 an5 ac5)] 64 := (Box.new (g := w.heap.size) _ #[(.slice aA0 an0 ac0), (.slice aA1 an1 ac1), (.slice aA2 an2 ac2), (.slice aA3 an3 ac3), (.slice aA4 an4 ac4), (.slice aA5 an5 ac5)] 64 (by simp)).below b1 (by first | omega | (simp [size_drew]; done) | (simp [size_drew]; omega))
  have xa := xa_; clear xa_
  obtain ⟨cxa_0, cxa_1, cxa_2, cxa_3, cxa_4, cxa_5, fxa_0, fxa_1, fxa_2, fxa_3, fxa_4, fxa_5⟩ := xa.six
  have l_xa_0 : w.heap.size < w1.heap.size := by omega
  go_wp2_with fail
  refine (szAuth_yes (aL2h.below (by repeat (with_reducible (first | assumption | exact Below.refl _ _ | refine Below.alloc ?_ (by first | omega | (simp; done) | (simp; omega)) _ | refine Below.setCell ?_ (by first | omega | (simp; done) | (simp; omega)) _ | refine Below.drew ?_ | refine below_drewN ?_ _)))) (aL3h.below (by repeat (with_reducible (first | assumption | exact Below.refl _ _ | refine Below.alloc ?_ (by first | omega | (simp; done) | (simp; omega)) _ | refine Below.setCell ?_ (by first | omega | (simp; done) | (simp; omega)) _ | refine Below.drew ?_ | refine below_drewN ?_ _)))) (left - (aL0.length + aL1.length)) _ (by first | rfl | simp) (by omega) (by omega)).mono ?_
  rintro e w2 ⟨rfl, b2⟩
  clear cxa_0 cxa_1 cxa_2 cxa_3 cxa_4 cxa_5 fxa_0 fxa_1 fxa_2 fxa_3 fxa_4 fxa_5 l_xa_0
  have z2 := b2.size
  try simp only [World.size_alloc, World.size_setCell, size_drew] at z2
  have B2 : Below w.heap.size w w2 := Below.trans (b := _) (by repeat (with_reducible (first | assumption | exact Below.refl _ _ | refine Below.alloc ?_ (by first | omega | (simp; done) | (simp; omega)) _ | refine Below.setCell ?_ (by first | omega | (simp; done) | (simp; omega)) _ | refine Below.drew ?_ | refine below_drewN ?_ _))) (b2.mono (by first | omega | (simp [size_drew]; done) | (simp [size_drew]; omega)))
  have xa_ : Box w2 (w.heap.size) #[(.slice aA0 an0 ac0), (.slice aA1 an1 ac1), (.slice aA2 an2 ac2), (.slice aA3 an3 ac3), (.slice aA4 an4 ac4), (.slice aA5 an5 ac5)] 64 := xa.below b2 (by first | omega | (simp [size_drew]; done) | (simp [size_drew]; omega))
  clear xa; have xa := xa_; clear xa_
  obtain ⟨cxa_0, cxa_1, cxa_2, cxa_3, cxa_4, cxa_5, fxa_0, fxa_1, fxa_2, fxa_3, fxa_4, fxa_5⟩ := xa.six
  have l_xa_0 : w.heap.size < w2.heap.size := by omega
  go_wp2_with fail
  refine (szAuth_no (aL4h.below (by repeat (with_reducible (first | assumption | exact Below.refl _ _ | refine Below.alloc ?_ (by first | omega | (simp; done) | (simp; omega)) _ | refine Below.setCell ?_ (by first | omega | (simp; done) | (simp; omega)) _ | refine Below.drew ?_ | refine below_drewN ?_ _)))) (aL5h.below (by repeat (with_reducible (first | assumption | exact Below.refl _ _ | refine Below.alloc ?_ (by first | omega | (simp; done) | (simp; omega)) _ | refine Below.setCell ?_ (by first | omega | (simp; done) | (simp; omega)) _ | refine Below.drew ?_ | refine below_drewN ?_ _)))) (left - (aL0.length + aL1.length) - (aL2.length + aL3.length)) _ (by first | rfl | simp) (by omega) (by omega)).mono ?_
  rintro e w3 ⟨rfl, b3⟩
  clear cxa_0 cxa_1 cxa_2 cxa_3 cxa_4 cxa_5 fxa_0 fxa_1 fxa_2 fxa_3 fxa_4 fxa_5 l_xa_0
  have z3 := b3.size
  try simp only [World.size_alloc, World.size_setCell, size_drew] at z3
  have B3 : Below w.heap.size w w3 := Below.trans (b := _) (by repeat (with_reducible (first | assumption | exact Below.refl _ _ | refine Below.alloc ?_ (by first | omega | (simp; done) | (simp; omega)) _ | refine Below.setCell ?_ (by first | omega | (simp; done) | (simp; omega)) _ | refine Below.drew ?_ | refine below_drewN ?_ _))) (b3.mono (by first | omega | (simp [size_drew]; done) | (simp [size_drew]; omega)))
  have xa_ : Box w3 (w.heap.size) #[(.slice aA0 an0 ac0), (.slice aA1 an1 ac1), (.slice aA2 an2 ac2), (.slice aA3 an3 ac3), (.slice aA4 an4 ac4), (.slice aA5 an5 ac5)] 64 := xa.below b3 (by first | omega | (simp [size_drew]; done) | (simp [size_drew]; omega))
  clear xa; have xa := xa_; clear xa_
  go_wp2
  go_ret
  refine ⟨rfl, ?_⟩
  repeat (with_reducible (first | assumption | exact Below.refl _ _ | refine Below.alloc ?_ (by first | omega | (simp; done) | (simp; omega)) _ | refine Below.setCell ?_ (by first | omega | (simp; done) | (simp; omega)) _ | refine Below.drew ?_ | refine below_drewN ?_ _))
end Go.Proofs.Ytllnnbmgdbinnaa

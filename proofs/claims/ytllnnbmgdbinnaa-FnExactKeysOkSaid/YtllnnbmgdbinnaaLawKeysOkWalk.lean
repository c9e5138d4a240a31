/- The walk of the law FnExactKeysOk. Printed by laws2.py. -/
import Derived.Test.YtllnnbmgdbinnaaMac
import Derived.Test.YtllnnbmgdbinnaaHk
import Derived.Test.YtllnnbmgdbinnaaReg
import Derived.Test.YtllnnbmgdbinnaaRegA
namespace Go.Proofs.Ytllnnbmgdbinnaa
set_option linter.unusedSimpArgs false
set_option linter.unusedVariables false
open Go.RowKit
set_option maxRecDepth 100000 in
set_option maxHeartbeats 2000000 in
theorem walk_FnExactKeysOk (kI0 : Int) (kL1V : Value) (kL1 : List Int) (w : World) (kL1h : Rd0 w kL1V kL1) :
    Calls Try.prog 6 #[.agg #[.int .i64 kI0, kL1V]] w fun e w' => e = .returned (.bool true) ∧ Below w.heap.size w w' := by
  obtain ⟨kA1, kn1, kc1, rfl, kL1x, kL1I⟩ := kL1h
  have kL1h : Rd0 w (.slice kA1 kn1 kc1) kL1 := ⟨_, _, _, rfl, kL1x, kL1I⟩
  by_cases sz0 : (kL1.length) ≤ 1048576
  · skip
    have kL1n : kL1.length ≤ 1048576 := by omega
    go_enter Try.func6, Try.ntmps6
    go_wp2_with fail
    refine (szKeys_yes kI0 (kL1h.below (by repeat (with_reducible (first | assumption | exact Below.refl _ _ | refine Below.alloc ?_ (by first | omega | (simp; done) | (simp; omega)) _ | refine Below.setCell ?_ (by first | omega | (simp; done) | (simp; omega)) _ | refine Below.drew ?_ | refine below_drewN ?_ _)))) (1048576) _ (by first | rfl | simp) (by omega) (by omega)).mono ?_
    rintro e w1 ⟨rfl, b1⟩
    have z1 := b1.size
    try simp only [World.size_alloc, World.size_setCell, size_drew] at z1
    have B1 : Below w.heap.size w w1 := Below.trans (b := _) (by repeat (with_reducible (first | assumption | exact Below.refl _ _ | refine Below.alloc ?_ (by first | omega | (simp; done) | (simp; omega)) _ | refine Below.setCell ?_ (by first | omega | (simp; done) | (simp; omega)) _ | refine Below.drew ?_ | refine below_drewN ?_ _))) (b1.mono (by first | omega | (simp [size_drew]; done) | (simp [size_drew]; omega)))
    have pk_ : Box w1 (w.heap.size) #[.int .i64 kI0, (.slice kA1 kn1 kc1)] 30 := (Box.new (g := w.heap.size) _ #[.int .i64 kI0, (.slice kA1 kn1 kc1)] 30 (by simp)).below b1 (by first | omega | (simp [size_drew]; done) | (simp [size_drew]; omega))
    have pk := pk_; clear pk_
    obtain ⟨cpk_0, cpk_1, fpk_0, fpk_1⟩ := pk.two
    have l_pk_0 : w.heap.size < w1.heap.size := by omega
    go_wp2_with fail
    refine (toKeys_L kI0 (RdL.cons (d := .ints kL1) (kL1h.rd.below (by repeat (with_reducible (first | assumption | exact Below.refl _ _ | refine Below.alloc ?_ (by first | omega | (simp; done) | (simp; omega)) _ | refine Below.setCell ?_ (by first | omega | (simp; done) | (simp; omega)) _ | refine Below.drew ?_ | refine below_drewN ?_ _)))) RdL.nil) kL1n).mono ?_
    rintro e w2 ⟨skA1, skn1, skc1, rfl, rsk, b2⟩
    clear cpk_0 cpk_1 fpk_0 fpk_1 l_pk_0
    have z2 := b2.size
    try simp only [World.size_alloc, World.size_setCell, size_drew] at z2
    have B2 : Below w.heap.size w w2 := Below.trans (b := _) (by repeat (with_reducible (first | assumption | exact Below.refl _ _ | refine Below.alloc ?_ (by first | omega | (simp; done) | (simp; omega)) _ | refine Below.setCell ?_ (by first | omega | (simp; done) | (simp; omega)) _ | refine Below.drew ?_ | refine below_drewN ?_ _))) (b2.mono (by first | omega | (simp [size_drew]; done) | (simp [size_drew]; omega)))
    have pk_ : Box w2 (w.heap.size) #[.int .i64 kI0, (.slice kA1 kn1 kc1)] 30 := pk.below b2 (by first | omega | (simp [size_drew]; done) | (simp [size_drew]; omega))
    clear pk; have pk := pk_; clear pk_
    try simp only [World.size_alloc, World.size_setCell, size_drew] at rsk
    go_wp2_with fail
    refine (sKeysOk_L kI0 rsk.rd kL1n).mono ?_
    rintro e w3 ⟨rfl, b3⟩
    have z3 := b3.size
    try simp only [World.size_alloc, World.size_setCell, size_drew] at z3
    have B3 : Below w.heap.size w w3 := Below.trans (b := _) (by repeat (with_reducible (first | assumption | exact Below.refl _ _ | refine Below.alloc ?_ (by first | omega | (simp; done) | (simp; omega)) _ | refine Below.setCell ?_ (by first | omega | (simp; done) | (simp; omega)) _ | refine Below.drew ?_ | refine below_drewN ?_ _))) (b3.mono (by first | omega | (simp [size_drew]; done) | (simp [size_drew]; omega)))
    have rsk_ := rsk.below b3
    clear rsk; have rsk := rsk_; clear rsk_
    have pk_ : Box w3 (w.heap.size) #[.int .i64 kI0, (.slice kA1 kn1 kc1)] 30 := pk.below b3 (by first | omega | (simp [size_drew]; done) | (simp [size_drew]; omega))
    clear pk; have pk := pk_; clear pk_
    obtain ⟨cpk_0, cpk_1, fpk_0, fpk_1⟩ := pk.two
    have l_pk_0 : w.heap.size < w3.heap.size := by omega
    go_wp2_with fail
    refine (toKeys_L kI0 (RdL.cons (d := .ints kL1) (kL1h.rd.below (by repeat (with_reducible (first | assumption | exact Below.refl _ _ | refine Below.alloc ?_ (by first | omega | (simp; done) | (simp; omega)) _ | refine Below.setCell ?_ (by first | omega | (simp; done) | (simp; omega)) _ | refine Below.drew ?_ | refine below_drewN ?_ _)))) RdL.nil) kL1n).mono ?_
    rintro e w4 ⟨xkA1, xkn1, xkc1, rfl, rxk, b4⟩
    clear cpk_0 cpk_1 fpk_0 fpk_1 l_pk_0
    have z4 := b4.size
    try simp only [World.size_alloc, World.size_setCell, size_drew] at z4
    have B4 : Below w.heap.size w w4 := Below.trans (b := _) (by repeat (with_reducible (first | assumption | exact Below.refl _ _ | refine Below.alloc ?_ (by first | omega | (simp; done) | (simp; omega)) _ | refine Below.setCell ?_ (by first | omega | (simp; done) | (simp; omega)) _ | refine Below.drew ?_ | refine below_drewN ?_ _))) (b4.mono (by first | omega | (simp [size_drew]; done) | (simp [size_drew]; omega)))
    have pk_ : Box w4 (w.heap.size) #[.int .i64 kI0, (.slice kA1 kn1 kc1)] 30 := pk.below b4 (by first | omega | (simp [size_drew]; done) | (simp [size_drew]; omega))
    clear pk; have pk := pk_; clear pk_
    try simp only [World.size_alloc, World.size_setCell, size_drew] at rxk
    go_wp2_with fail
    refine (iKeysOk_L kI0 (rxk.alloc _).rd kL1n).mono ?_
    rintro e w5 ⟨rfl, b5⟩
    have z5 := b5.size
    try simp only [World.size_alloc, World.size_setCell, size_drew] at z5
    have B5 : Below w.heap.size w w5 := Below.trans (b := _) (by repeat (with_reducible (first | assumption | exact Below.refl _ _ | refine Below.alloc ?_ (by first | omega | (simp; done) | (simp; omega)) _ | refine Below.setCell ?_ (by first | omega | (simp; done) | (simp; omega)) _ | refine Below.drew ?_ | refine below_drewN ?_ _))) (b5.mono (by first | omega | (simp [size_drew]; done) | (simp [size_drew]; omega)))
    have rxk_ := (rxk.alloc _).below b5
    clear rxk; have rxk := rxk_; clear rxk_
    have pk_ : Box w5 (w.heap.size) #[.int .i64 kI0, (.slice kA1 kn1 kc1)] 30 := (pk.alloc _).below b5 (by first | omega | (simp [size_drew]; done) | (simp [size_drew]; omega))
    clear pk; have pk := pk_; clear pk_
    have xk_ : Box w5 (w4.heap.size) #[.int .i64 kI0, (.slice xkA1 xkn1 xkc1)] 33 := (Box.new (g := w4.heap.size) _ #[.int .i64 kI0, (.slice xkA1 xkn1 xkc1)] 33 (by simp)).below b5 (by first | omega | (simp [size_drew]; done) | (simp [size_drew]; omega))
    have xk := xk_; clear xk_
    obtain ⟨cpk_0, cpk_1, fpk_0, fpk_1⟩ := pk.two
    have l_pk_0 : w.heap.size < w5.heap.size := by omega
    obtain ⟨cxk_0, cxk_1, fxk_0, fxk_1⟩ := xk.two
    have l_xk_0 : w4.heap.size < w5.heap.size := by omega
    go_wp2_with fail
    clear cpk_0 cpk_1 fpk_0 fpk_1 l_pk_0 cxk_0 cxk_1 fxk_0 fxk_1 l_xk_0
    refine wp_region_held_drew (S := fun W => W.cell? ⟨w.heap.size, 0, none⟩ = some (.int .i64 kI0) ∧ W.cell? ⟨w.heap.size, 1, none⟩ = some ((.slice kA1 kn1 kc1)) ∧ W.cell? ⟨w4.heap.size, 0, none⟩ = some (.int .i64 kI0) ∧ W.cell? ⟨w4.heap.size, 1, none⟩ = some ((.slice xkA1 xkn1 xkc1))) (by kernel_rfl) ⟨pk.drew.two.1, pk.drew.two.2.1, xk.drew.two.1, xk.drew.two.2.1⟩ (fun hS => ?_)
    (refine takeH (i := 0) (by simp only [List.getElem?_toArray, List.getElem?_cons_succ, List.getElem?_cons_zero] <;> rfl) (by kernel_rfl) (by kernel_rfl) (by kernel_rfl) (by exact fun _ _ _ h => h) (by rfl) (by intro W hSw; (try dsimp only at hSw); go_simp; (first | done | with_reducible rfl)) (by assumption) ?_; (try simp only [Act.put, List.setIfInBounds_toArray, List.set_cons_zero, List.set_cons_succ]))
    (refine takeH (i := 1) (by simp only [List.getElem?_toArray, List.getElem?_cons_succ, List.getElem?_cons_zero] <;> rfl) (by kernel_rfl) (by kernel_rfl) (by kernel_rfl) (by exact fun _ _ _ h => h) (by rfl) (by intro W hSw; (try dsimp only at hSw); go_simp; (first | done | with_reducible rfl)) (by assumption) ?_; (try simp only [Act.put, List.setIfInBounds_toArray, List.set_cons_zero, List.set_cons_succ]))
    refine onlyH (i := 2) (by simp only [List.getElem?_toArray, List.getElem?_cons_succ, List.getElem?_cons_zero] <;> rfl) (by kernel_rfl) (by rfl) ?_
    refine callH (by go_simp; (first | done | with_reducible rfl | exact ⟨rfl, rfl⟩)) ?_
    go_at_call 35
    refine (toKeys_L kI0 (RdL.cons (d := .ints kL1) (kL1h.rd.below (by repeat (with_reducible (first | assumption | exact Below.refl _ _ | refine Below.alloc ?_ (by first | omega | (simp; done) | (simp; omega)) _ | refine Below.setCell ?_ (by first | omega | (simp; done) | (simp; omega)) _ | refine Below.drew ?_ | refine below_drewN ?_ _)))) RdL.nil) kL1n).mono ?_
    rintro e w6 ⟨zkA1, zkn1, zkc1, rfl, rzk, b6⟩
    clear hS
    have z6 := Below.size b6
    (try simp only [World.size_alloc, World.size_setCell, size_drew] at z6)
    have B6 : Below w.heap.size w w6 := Below.trans (b := _) (by repeat (with_reducible (first | assumption | exact Below.refl _ _ | refine Below.alloc ?_ (by first | omega | (simp; done) | (simp; omega)) _ | refine Below.setCell ?_ (by first | omega | (simp; done) | (simp; omega)) _ | refine Below.drew ?_ | refine below_drewN ?_ _))) (b6.mono (by first | omega | (simp [size_drew]; done) | (simp [size_drew]; omega)))
    have rxk_ := (rxk.drew.below b6)
    clear rxk; have rxk := rxk_; clear rxk_
    have pk_ : Box w6 (w.heap.size) #[.int .i64 kI0, (.slice kA1 kn1 kc1)] 30 := (Box.below pk.drew b6 (by first | omega | (simp [size_drew]; done) | (simp [size_drew]; omega)))
    clear pk; have pk := pk_; clear pk_
    have xk_ : Box w6 (w4.heap.size) #[.int .i64 kI0, (.slice xkA1 xkn1 xkc1)] 33 := (Box.below xk.drew b6 (by first | omega | (simp [size_drew]; done) | (simp [size_drew]; omega)))
    clear xk; have xk := xk_; clear xk_
    (try simp only [World.size_alloc, World.size_setCell, size_drew] at rzk)
    refine ⟨_, rfl, ⟨pk.two.1, pk.two.2.1, xk.two.1, xk.two.2.1⟩, fun hS => ?_⟩
    (try simp only [Act.put, List.setIfInBounds_toArray, List.set_cons_zero, List.set_cons_succ])
    refine onlyH (i := 3) (by simp only [List.getElem?_toArray, List.getElem?_cons_succ, List.getElem?_cons_zero] <;> rfl) (by kernel_rfl) (by rfl) ?_
    refine callH (by go_simp; (first | done | with_reducible rfl | exact ⟨rfl, rfl⟩)) ?_
    go_at_call 37
    refine (eqKeys_L kI0 rxk.rd rzk.rd kL1n).mono ?_
    rintro e w7 ⟨rfl, b7⟩
    clear hS
    have z7 := Below.size b7
    (try simp only [World.size_alloc, World.size_setCell, size_drew] at z7)
    have B7 : Below w.heap.size w w7 := Below.trans (b := _) (by repeat (with_reducible (first | assumption | exact Below.refl _ _ | refine Below.alloc ?_ (by first | omega | (simp; done) | (simp; omega)) _ | refine Below.setCell ?_ (by first | omega | (simp; done) | (simp; omega)) _ | refine Below.drew ?_ | refine below_drewN ?_ _))) (b7.mono (by first | omega | (simp [size_drew]; done) | (simp [size_drew]; omega)))
    have rxk_ := (rxk.below b7)
    clear rxk; have rxk := rxk_; clear rxk_
    have rzk_ := (rzk.below b7)
    clear rzk; have rzk := rzk_; clear rzk_
    have pk_ : Box w7 (w.heap.size) #[.int .i64 kI0, (.slice kA1 kn1 kc1)] 30 := (Box.below pk b7 (by first | omega | (simp [size_drew]; done) | (simp [size_drew]; omega)))
    clear pk; have pk := pk_; clear pk_
    have xk_ : Box w7 (w4.heap.size) #[.int .i64 kI0, (.slice xkA1 xkn1 xkc1)] 33 := (Box.below xk b7 (by first | omega | (simp [size_drew]; done) | (simp [size_drew]; omega)))
    clear xk; have xk := xk_; clear xk_
    refine ⟨_, rfl, ⟨pk.two.1, pk.two.2.1, xk.two.1, xk.two.2.1⟩, fun hS => ?_⟩
    (try simp only [Act.put, List.setIfInBounds_toArray, List.set_cons_zero, List.set_cons_succ])
    (refine takeH (i := 4) (by simp only [List.getElem?_toArray, List.getElem?_cons_succ, List.getElem?_cons_zero] <;> rfl) (by kernel_rfl) (by kernel_rfl) (by kernel_rfl) (by exact fun _ _ _ h => h) (by rfl) (by intro W hSw; (try dsimp only at hSw); go_simp; (first | done | with_reducible rfl)) (by assumption) ?_; (try simp only [Act.put, List.setIfInBounds_toArray, List.set_cons_zero, List.set_cons_succ]))
    clear hS
    refine wpAnyH_done (by kernel_rfl) ?_ _
    go_wp2_with fail
    go_ret
    exact ⟨rfl, B7⟩
  · skip
    go_enter Try.func6, Try.ntmps6
    go_wp2_with fail
    refine (szKeys_no kI0 (kL1h.below (by repeat (with_reducible (first | assumption | exact Below.refl _ _ | refine Below.alloc ?_ (by first | omega | (simp; done) | (simp; omega)) _ | refine Below.setCell ?_ (by first | omega | (simp; done) | (simp; omega)) _ | refine Below.drew ?_ | refine below_drewN ?_ _)))) (1048576) _ (by first | rfl | simp) (by omega) (by omega)).mono ?_
    rintro e w1 ⟨rfl, b1⟩
    have z1 := b1.size
    try simp only [World.size_alloc, World.size_setCell, size_drew] at z1
    have B1 : Below w.heap.size w w1 := Below.trans (b := _) (by repeat (with_reducible (first | assumption | exact Below.refl _ _ | refine Below.alloc ?_ (by first | omega | (simp; done) | (simp; omega)) _ | refine Below.setCell ?_ (by first | omega | (simp; done) | (simp; omega)) _ | refine Below.drew ?_ | refine below_drewN ?_ _))) (b1.mono (by first | omega | (simp [size_drew]; done) | (simp [size_drew]; omega)))
    have pk_ : Box w1 (w.heap.size) #[.int .i64 kI0, (.slice kA1 kn1 kc1)] 30 := (Box.new (g := w.heap.size) _ #[.int .i64 kI0, (.slice kA1 kn1 kc1)] 30 (by simp)).below b1 (by first | omega | (simp [size_drew]; done) | (simp [size_drew]; omega))
    have pk := pk_; clear pk_
    go_wp2
    go_ret
    exact ⟨rfl, B1⟩
end Go.Proofs.Ytllnnbmgdbinnaa

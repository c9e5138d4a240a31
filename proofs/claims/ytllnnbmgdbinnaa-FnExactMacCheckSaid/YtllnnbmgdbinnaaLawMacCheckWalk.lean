/- The walk of the law FnExactMacCheck. Printed by laws2.py. -/
import Derived.Test.YtllnnbmgdbinnaaMac2
import Derived.Test.YtllnnbmgdbinnaaHk
import Derived.Test.YtllnnbmgdbinnaaReg
import Derived.Test.YtllnnbmgdbinnaaRegA
namespace Go.Proofs.Ytllnnbmgdbinnaa
set_option linter.unusedSimpArgs false
set_option linter.unusedVariables false
open Go.RowKit
set_option maxRecDepth 100000 in
set_option maxHeartbeats 2000000 in
theorem walk_FnExactMacCheck (kI0 : Int) (kL1V : Value) (kL1 : List Int) (oI0 : Int) (aL0V : Value) (aL0 : List Int) (aL1V : Value) (aL1 : List Int) (w : World) (kL1h : Rd0 w kL1V kL1) (aL0h : Rd0 w aL0V aL0) (aL1h : Rd0 w aL1V aL1) :
    Calls Try.prog 8 #[.agg #[.int .i64 kI0, kL1V], .int .i64 oI0, .agg #[aL0V, aL1V]] w fun e w' => e = .returned (.bool true) ∧ Below w.heap.size w w' := by
  obtain ⟨kA1, kn1, kc1, rfl, kL1x, kL1I⟩ := kL1h
  have kL1h : Rd0 w (.slice kA1 kn1 kc1) kL1 := ⟨_, _, _, rfl, kL1x, kL1I⟩
  obtain ⟨aA0, an0, ac0, rfl, aL0x, aL0I⟩ := aL0h
  have aL0h : Rd0 w (.slice aA0 an0 ac0) aL0 := ⟨_, _, _, rfl, aL0x, aL0I⟩
  obtain ⟨aA1, an1, ac1, rfl, aL1x, aL1I⟩ := aL1h
  have aL1h : Rd0 w (.slice aA1 an1 ac1) aL1 := ⟨_, _, _, rfl, aL1x, aL1I⟩
  by_cases sz0 : (kL1.length) ≤ 1048576
  · skip
    by_cases sz1 : (kL1.length) + (aL0.length + aL1.length) ≤ 1048576
    · skip
      have kL1n : kL1.length ≤ 1048576 := by omega
      have aL0n : aL0.length ≤ 1048576 := by omega
      have aL1n : aL1.length ≤ 1048576 := by omega
      go_enter Try.func8, Try.ntmps8
      go_wp2_with fail
      refine (szKeys_yes kI0 (kL1h.below (by repeat (with_reducible (first | assumption | exact Below.refl _ _ | refine Below.alloc ?_ (by first | omega | (simp; done) | (simp; omega)) _ | refine Below.setCell ?_ (by first | omega | (simp; done) | (simp; omega)) _ | refine Below.drew ?_ | refine below_drewN ?_ _)))) (1048576) _ (by first | rfl | simp) (by omega) (by omega)).mono ?_
      rintro e w1 ⟨rfl, b1⟩
      have z1 := b1.size
      try simp only [World.size_alloc, World.size_setCell, size_drew] at z1
      have B1 : Below w.heap.size w w1 := Below.trans (b := _) (by repeat (with_reducible (first | assumption | exact Below.refl _ _ | refine Below.alloc ?_ (by first | omega | (simp; done) | (simp; omega)) _ | refine Below.setCell ?_ (by first | omega | (simp; done) | (simp; omega)) _ | refine Below.drew ?_ | refine below_drewN ?_ _))) (b1.mono (by first | omega | (simp [size_drew]; done) | (simp [size_drew]; omega)))
      have pk_ : Box w1 (w.heap.size) #[.int .i64 kI0, (.slice kA1 kn1 kc1)] 30 := ((Box.new (g := w.heap.size) _ #[.int .i64 kI0, (.slice kA1 kn1 kc1)] 30 (by simp)).alloc _).below b1 (by first | omega | (simp [size_drew]; done) | (simp [size_drew]; omega))
      have pk := pk_; clear pk_
      have pa_ : Box w1 (w.heap.size + 1) #[(.slice aA0 an0 ac0), (.slice aA1 an1 ac1)] 44 := (Box.new (g := w.heap.size + 1) _ #[(.slice aA0 an0 ac0), (.slice aA1 an1 ac1)] 44 (by simp)).below b1 (by first | omega | (simp [size_drew]; done) | (simp [size_drew]; omega))
      have pa := pa_; clear pa_
      obtain ⟨cpa_0, cpa_1, fpa_0, fpa_1⟩ := pa.two
      have l_pa_0 : w.heap.size + 1 < w1.heap.size := by omega
      go_wp2_with fail
      refine (szAuth_yes (aL0h.below (by repeat (with_reducible (first | assumption | exact Below.refl _ _ | refine Below.alloc ?_ (by first | omega | (simp; done) | (simp; omega)) _ | refine Below.setCell ?_ (by first | omega | (simp; done) | (simp; omega)) _ | refine Below.drew ?_ | refine below_drewN ?_ _)))) (aL1h.below (by repeat (with_reducible (first | assumption | exact Below.refl _ _ | refine Below.alloc ?_ (by first | omega | (simp; done) | (simp; omega)) _ | refine Below.setCell ?_ (by first | omega | (simp; done) | (simp; omega)) _ | refine Below.drew ?_ | refine below_drewN ?_ _)))) (1048576 - (kL1.length)) _ (by first | rfl | simp) (by omega) (by omega)).mono ?_
      rintro e w2 ⟨rfl, b2⟩
      clear cpa_0 cpa_1 fpa_0 fpa_1 l_pa_0
      have z2 := b2.size
      try simp only [World.size_alloc, World.size_setCell, size_drew] at z2
      have B2 : Below w.heap.size w w2 := Below.trans (b := _) (by repeat (with_reducible (first | assumption | exact Below.refl _ _ | refine Below.alloc ?_ (by first | omega | (simp; done) | (simp; omega)) _ | refine Below.setCell ?_ (by first | omega | (simp; done) | (simp; omega)) _ | refine Below.drew ?_ | refine below_drewN ?_ _))) (b2.mono (by first | omega | (simp [size_drew]; done) | (simp [size_drew]; omega)))
      have pk_ : Box w2 (w.heap.size) #[.int .i64 kI0, (.slice kA1 kn1 kc1)] 30 := pk.below b2 (by first | omega | (simp [size_drew]; done) | (simp [size_drew]; omega))
      clear pk; have pk := pk_; clear pk_
      have pa_ : Box w2 (w.heap.size + 1) #[(.slice aA0 an0 ac0), (.slice aA1 an1 ac1)] 44 := pa.below b2 (by first | omega | (simp [size_drew]; done) | (simp [size_drew]; omega))
      clear pa; have pa := pa_; clear pa_
      obtain ⟨cpk_0, cpk_1, fpk_0, fpk_1⟩ := pk.two
      have l_pk_0 : w.heap.size < w2.heap.size := by omega
      obtain ⟨cpa_0, cpa_1, fpa_0, fpa_1⟩ := pa.two
      have l_pa_0 : w.heap.size + 1 < w2.heap.size := by omega
      go_wp2_with fail
      clear cpk_0 cpk_1 fpk_0 fpk_1 l_pk_0 cpa_0 cpa_1 fpa_0 fpa_1 l_pa_0
      refine wp_region_held_drew (S := fun W => W.cell? ⟨w.heap.size, 0, none⟩ = some (.int .i64 kI0) ∧ W.cell? ⟨w.heap.size, 1, none⟩ = some ((.slice kA1 kn1 kc1)) ∧ W.cell? ⟨w.heap.size + 1, 0, none⟩ = some ((.slice aA0 an0 ac0)) ∧ W.cell? ⟨w.heap.size + 1, 1, none⟩ = some ((.slice aA1 an1 ac1))) (by kernel_rfl) ⟨pk.drew.two.1, pk.drew.two.2.1, pa.drew.two.1, pa.drew.two.2.1⟩ (fun hS => ?_)
      (refine takeH (i := 0) (by simp only [List.getElem?_toArray, List.getElem?_cons_succ, List.getElem?_cons_zero] <;> rfl) (by kernel_rfl) (by kernel_rfl) (by kernel_rfl) (by exact fun _ _ _ h => h) (by rfl) (by intro W hSw; (try dsimp only at hSw); go_simp; (first | done | with_reducible rfl)) (by assumption) ?_; (try simp only [Act.put, List.setIfInBounds_toArray, List.set_cons_zero, List.set_cons_succ]))
      (refine takeH (i := 2) (by simp only [List.getElem?_toArray, List.getElem?_cons_succ, List.getElem?_cons_zero] <;> rfl) (by kernel_rfl) (by kernel_rfl) (by kernel_rfl) (by exact fun _ _ _ h => h) (by rfl) (by intro W hSw; (try dsimp only at hSw); go_simp; (first | done | with_reducible rfl)) (by assumption) ?_; (try simp only [Act.put, List.setIfInBounds_toArray, List.set_cons_zero, List.set_cons_succ]))
      (refine takeH (i := 3) (by simp only [List.getElem?_toArray, List.getElem?_cons_succ, List.getElem?_cons_zero] <;> rfl) (by kernel_rfl) (by kernel_rfl) (by kernel_rfl) (by exact fun _ _ _ h => h) (by rfl) (by intro W hSw; (try dsimp only at hSw); go_simp; (first | done | with_reducible rfl)) (by assumption) ?_; (try simp only [Act.put, List.setIfInBounds_toArray, List.set_cons_zero, List.set_cons_succ]))
      refine onlyH (i := 1) (by simp only [List.getElem?_toArray, List.getElem?_cons_succ, List.getElem?_cons_zero] <;> rfl) (by kernel_rfl) (by rfl) ?_
      refine callH (by go_simp; (first | done | with_reducible rfl | exact ⟨rfl, rfl⟩)) ?_
      go_at_call 35
      refine (toKeys_L kI0 (RdL.cons (d := .ints kL1) (kL1h.rd.below (by repeat (with_reducible (first | assumption | exact Below.refl _ _ | refine Below.alloc ?_ (by first | omega | (simp; done) | (simp; omega)) _ | refine Below.setCell ?_ (by first | omega | (simp; done) | (simp; omega)) _ | refine Below.drew ?_ | refine below_drewN ?_ _)))) RdL.nil) kL1n).mono ?_
      rintro e w3 ⟨skA1, skn1, skc1, rfl, rsk, b3⟩
      clear hS
      have z3 := Below.size b3
      (try simp only [World.size_alloc, World.size_setCell, size_drew] at z3)
      have B3 : Below w.heap.size w w3 := Below.trans (b := _) (by repeat (with_reducible (first | assumption | exact Below.refl _ _ | refine Below.alloc ?_ (by first | omega | (simp; done) | (simp; omega)) _ | refine Below.setCell ?_ (by first | omega | (simp; done) | (simp; omega)) _ | refine Below.drew ?_ | refine below_drewN ?_ _))) (b3.mono (by first | omega | (simp [size_drew]; done) | (simp [size_drew]; omega)))
      have pk_ : Box w3 (w.heap.size) #[.int .i64 kI0, (.slice kA1 kn1 kc1)] 30 := (Box.below pk.drew b3 (by first | omega | (simp [size_drew]; done) | (simp [size_drew]; omega)))
      clear pk; have pk := pk_; clear pk_
      have pa_ : Box w3 (w.heap.size + 1) #[(.slice aA0 an0 ac0), (.slice aA1 an1 ac1)] 44 := (Box.below pa.drew b3 (by first | omega | (simp [size_drew]; done) | (simp [size_drew]; omega)))
      clear pa; have pa := pa_; clear pa_
      (try simp only [World.size_alloc, World.size_setCell, size_drew] at rsk)
      refine ⟨_, rfl, ⟨pk.two.1, pk.two.2.1, pa.two.1, pa.two.2.1⟩, fun hS => ?_⟩
      (try simp only [Act.put, List.setIfInBounds_toArray, List.set_cons_zero, List.set_cons_succ])
      refine onlyH (i := 4) (by simp only [List.getElem?_toArray, List.getElem?_cons_succ, List.getElem?_cons_zero] <;> rfl) (by kernel_rfl) (by rfl) ?_
      refine callH (by go_simp; (first | done | with_reducible rfl | exact ⟨rfl, rfl⟩)) ?_
      go_at_call 42
      refine (toAuth_L (RdL.cons (d := .ints aL0) (aL0h.rd.below (by repeat (with_reducible (first | assumption | exact Below.refl _ _ | refine Below.alloc ?_ (by first | omega | (simp; done) | (simp; omega)) _ | refine Below.setCell ?_ (by first | omega | (simp; done) | (simp; omega)) _ | refine Below.drew ?_ | refine below_drewN ?_ _)))) (RdL.cons (d := .ints aL1) (aL1h.rd.below (by repeat (with_reducible (first | assumption | exact Below.refl _ _ | refine Below.alloc ?_ (by first | omega | (simp; done) | (simp; omega)) _ | refine Below.setCell ?_ (by first | omega | (simp; done) | (simp; omega)) _ | refine Below.drew ?_ | refine below_drewN ?_ _)))) RdL.nil)) aL0n aL1n).mono ?_
      rintro e w4 ⟨saA0, san0, sac0, saA1, san1, sac1, rfl, rsa, b4⟩
      clear hS
      have z4 := Below.size b4
      (try simp only [World.size_alloc, World.size_setCell, size_drew] at z4)
      have B4 : Below w.heap.size w w4 := Below.trans (b := _) (by repeat (with_reducible (first | assumption | exact Below.refl _ _ | refine Below.alloc ?_ (by first | omega | (simp; done) | (simp; omega)) _ | refine Below.setCell ?_ (by first | omega | (simp; done) | (simp; omega)) _ | refine Below.drew ?_ | refine below_drewN ?_ _))) (b4.mono (by first | omega | (simp [size_drew]; done) | (simp [size_drew]; omega)))
      have rsk_ := (rsk.below b4)
      clear rsk; have rsk := rsk_; clear rsk_
      have pk_ : Box w4 (w.heap.size) #[.int .i64 kI0, (.slice kA1 kn1 kc1)] 30 := (Box.below pk b4 (by first | omega | (simp [size_drew]; done) | (simp [size_drew]; omega)))
      clear pk; have pk := pk_; clear pk_
      have pa_ : Box w4 (w.heap.size + 1) #[(.slice aA0 an0 ac0), (.slice aA1 an1 ac1)] 44 := (Box.below pa b4 (by first | omega | (simp [size_drew]; done) | (simp [size_drew]; omega)))
      clear pa; have pa := pa_; clear pa_
      (try simp only [World.size_alloc, World.size_setCell, size_drew] at rsa)
      refine ⟨_, rfl, ⟨pk.two.1, pk.two.2.1, pa.two.1, pa.two.2.1⟩, fun hS => ?_⟩
      (try simp only [Act.put, List.setIfInBounds_toArray, List.set_cons_zero, List.set_cons_succ])
      refine onlyH (i := 5) (by simp only [List.getElem?_toArray, List.getElem?_cons_succ, List.getElem?_cons_zero] <;> rfl) (by kernel_rfl) (by rfl) ?_
      refine callH (by go_simp; (first | done | with_reducible rfl | exact ⟨rfl, rfl⟩)) ?_
      go_at_call 41
      refine (sMacCheck_L kI0 rsk.rd kL1n oI0 rsa.rd aL0n aL1n).mono ?_
      rintro e w5 ⟨rfl, b5⟩
      clear hS
      have z5 := Below.size b5
      (try simp only [World.size_alloc, World.size_setCell, size_drew] at z5)
      have B5 : Below w.heap.size w w5 := Below.trans (b := _) (by repeat (with_reducible (first | assumption | exact Below.refl _ _ | refine Below.alloc ?_ (by first | omega | (simp; done) | (simp; omega)) _ | refine Below.setCell ?_ (by first | omega | (simp; done) | (simp; omega)) _ | refine Below.drew ?_ | refine below_drewN ?_ _))) (b5.mono (by first | omega | (simp [size_drew]; done) | (simp [size_drew]; omega)))
      have rsk_ := (rsk.below b5)
      clear rsk; have rsk := rsk_; clear rsk_
      have rsa_ := (rsa.below b5)
      clear rsa; have rsa := rsa_; clear rsa_
      have pk_ : Box w5 (w.heap.size) #[.int .i64 kI0, (.slice kA1 kn1 kc1)] 30 := (Box.below pk b5 (by first | omega | (simp [size_drew]; done) | (simp [size_drew]; omega)))
      clear pk; have pk := pk_; clear pk_
      have pa_ : Box w5 (w.heap.size + 1) #[(.slice aA0 an0 ac0), (.slice aA1 an1 ac1)] 44 := (Box.below pa b5 (by first | omega | (simp [size_drew]; done) | (simp [size_drew]; omega)))
      clear pa; have pa := pa_; clear pa_
      refine ⟨_, rfl, ⟨pk.two.1, pk.two.2.1, pa.two.1, pa.two.2.1⟩, fun hS => ?_⟩
      (try simp only [Act.put, List.setIfInBounds_toArray, List.set_cons_zero, List.set_cons_succ])
      (refine takeH (i := 6) (by simp only [List.getElem?_toArray, List.getElem?_cons_succ, List.getElem?_cons_zero] <;> rfl) (by kernel_rfl) (by kernel_rfl) (by kernel_rfl) (by exact fun _ _ _ h => h) (by rfl) (by intro W hSw; (try dsimp only at hSw); go_simp; (first | done | with_reducible rfl)) (by assumption) ?_; (try simp only [Act.put, List.setIfInBounds_toArray, List.set_cons_zero, List.set_cons_succ]))
      clear hS
      refine wpAnyH_done (by kernel_rfl) ?_ _
      obtain ⟨cpk_0, cpk_1, fpk_0, fpk_1⟩ := pk.two
      have l_pk_0 : w.heap.size < w5.heap.size := by omega
      go_wp2_with fail
      refine (toKeys_L kI0 (RdL.cons (d := .ints kL1) (kL1h.rd.below (by repeat (with_reducible (first | assumption | exact Below.refl _ _ | refine Below.alloc ?_ (by first | omega | (simp; done) | (simp; omega)) _ | refine Below.setCell ?_ (by first | omega | (simp; done) | (simp; omega)) _ | refine Below.drew ?_ | refine below_drewN ?_ _)))) RdL.nil) kL1n).mono ?_
      rintro e w6 ⟨xkA1, xkn1, xkc1, rfl, rxk, b6⟩
      clear cpk_0 cpk_1 fpk_0 fpk_1 l_pk_0
      have z6 := b6.size
      try simp only [World.size_alloc, World.size_setCell, size_drew] at z6
      have B6 : Below w.heap.size w w6 := Below.trans (b := _) (by repeat (with_reducible (first | assumption | exact Below.refl _ _ | refine Below.alloc ?_ (by first | omega | (simp; done) | (simp; omega)) _ | refine Below.setCell ?_ (by first | omega | (simp; done) | (simp; omega)) _ | refine Below.drew ?_ | refine below_drewN ?_ _))) (b6.mono (by first | omega | (simp [size_drew]; done) | (simp [size_drew]; omega)))
      have pk_ : Box w6 (w.heap.size) #[.int .i64 kI0, (.slice kA1 kn1 kc1)] 30 := pk.below b6 (by first | omega | (simp [size_drew]; done) | (simp [size_drew]; omega))
      clear pk; have pk := pk_; clear pk_
      have pa_ : Box w6 (w.heap.size + 1) #[(.slice aA0 an0 ac0), (.slice aA1 an1 ac1)] 44 := pa.below b6 (by first | omega | (simp [size_drew]; done) | (simp [size_drew]; omega))
      clear pa; have pa := pa_; clear pa_
      try simp only [World.size_alloc, World.size_setCell, size_drew] at rxk
      obtain ⟨cpa_0, cpa_1, fpa_0, fpa_1⟩ := pa.two
      have l_pa_0 : w.heap.size + 1 < w6.heap.size := by omega
      have l_pa_1 : w.heap.size + 1 < w6.heap.size + 1 := by omega
      go_wp2_with fail
      refine (toAuth_L (RdL.cons (d := .ints aL0) (aL0h.rd.below (by repeat (with_reducible (first | assumption | exact Below.refl _ _ | refine Below.alloc ?_ (by first | omega | (simp; done) | (simp; omega)) _ | refine Below.setCell ?_ (by first | omega | (simp; done) | (simp; omega)) _ | refine Below.drew ?_ | refine below_drewN ?_ _)))) (RdL.cons (d := .ints aL1) (aL1h.rd.below (by repeat (with_reducible (first | assumption | exact Below.refl _ _ | refine Below.alloc ?_ (by first | omega | (simp; done) | (simp; omega)) _ | refine Below.setCell ?_ (by first | omega | (simp; done) | (simp; omega)) _ | refine Below.drew ?_ | refine below_drewN ?_ _)))) RdL.nil)) aL0n aL1n).mono ?_
      rintro e w7 ⟨xaA0, xan0, xac0, xaA1, xan1, xac1, rfl, rxa, b7⟩
      clear cpa_0 cpa_1 fpa_0 fpa_1 l_pa_0 l_pa_1
      have z7 := b7.size
      try simp only [World.size_alloc, World.size_setCell, size_drew] at z7
      have B7 : Below w.heap.size w w7 := Below.trans (b := _) (by repeat (with_reducible (first | assumption | exact Below.refl _ _ | refine Below.alloc ?_ (by first | omega | (simp; done) | (simp; omega)) _ | refine Below.setCell ?_ (by first | omega | (simp; done) | (simp; omega)) _ | refine Below.drew ?_ | refine below_drewN ?_ _))) (b7.mono (by first | omega | (simp [size_drew]; done) | (simp [size_drew]; omega)))
      have rxk_ := (rxk.alloc _).below b7
      clear rxk; have rxk := rxk_; clear rxk_
      have pk_ : Box w7 (w.heap.size) #[.int .i64 kI0, (.slice kA1 kn1 kc1)] 30 := (pk.alloc _).below b7 (by first | omega | (simp [size_drew]; done) | (simp [size_drew]; omega))
      clear pk; have pk := pk_; clear pk_
      have pa_ : Box w7 (w.heap.size + 1) #[(.slice aA0 an0 ac0), (.slice aA1 an1 ac1)] 44 := (pa.alloc _).below b7 (by first | omega | (simp [size_drew]; done) | (simp [size_drew]; omega))
      clear pa; have pa := pa_; clear pa_
      have xk_ : Box w7 (w6.heap.size) #[.int .i64 kI0, (.slice xkA1 xkn1 xkc1)] 33 := (Box.new (g := w6.heap.size) _ #[.int .i64 kI0, (.slice xkA1 xkn1 xkc1)] 33 (by simp)).below b7 (by first | omega | (simp [size_drew]; done) | (simp [size_drew]; omega))
      have xk := xk_; clear xk_
      try simp only [World.size_alloc, World.size_setCell, size_drew] at rxa
      obtain ⟨cxk_0, cxk_1, fxk_0, fxk_1⟩ := xk.two
      have l_xk_0 : w6.heap.size < w7.heap.size := by omega
      have l_xk_1 : w6.heap.size < w7.heap.size + 1 := by omega
      go_wp2_with fail
      refine (iMacCheck_L kI0 (rxk.alloc _).rd kL1n oI0 (rxa.alloc _).rd aL0n aL1n).mono ?_
      rintro e w8 ⟨rfl, b8⟩
      clear cxk_0 cxk_1 fxk_0 fxk_1 l_xk_0 l_xk_1
      have z8 := b8.size
      try simp only [World.size_alloc, World.size_setCell, size_drew] at z8
      have B8 : Below w.heap.size w w8 := Below.trans (b := _) (by repeat (with_reducible (first | assumption | exact Below.refl _ _ | refine Below.alloc ?_ (by first | omega | (simp; done) | (simp; omega)) _ | refine Below.setCell ?_ (by first | omega | (simp; done) | (simp; omega)) _ | refine Below.drew ?_ | refine below_drewN ?_ _))) (b8.mono (by first | omega | (simp [size_drew]; done) | (simp [size_drew]; omega)))
      have rxk_ := (rxk.alloc _).below b8
      clear rxk; have rxk := rxk_; clear rxk_
      have rxa_ := (rxa.alloc _).below b8
      clear rxa; have rxa := rxa_; clear rxa_
      have pk_ : Box w8 (w.heap.size) #[.int .i64 kI0, (.slice kA1 kn1 kc1)] 30 := (pk.alloc _).below b8 (by first | omega | (simp [size_drew]; done) | (simp [size_drew]; omega))
      clear pk; have pk := pk_; clear pk_
      have pa_ : Box w8 (w.heap.size + 1) #[(.slice aA0 an0 ac0), (.slice aA1 an1 ac1)] 44 := (pa.alloc _).below b8 (by first | omega | (simp [size_drew]; done) | (simp [size_drew]; omega))
      clear pa; have pa := pa_; clear pa_
      have xk_ : Box w8 (w6.heap.size) #[.int .i64 kI0, (.slice xkA1 xkn1 xkc1)] 33 := (xk.alloc _).below b8 (by first | omega | (simp [size_drew]; done) | (simp [size_drew]; omega))
      clear xk; have xk := xk_; clear xk_
      have xa_ : Box w8 (w7.heap.size) #[(.slice xaA0 xan0 xac0), (.slice xaA1 xan1 xac1)] 38 := (Box.new (g := w7.heap.size) _ #[(.slice xaA0 xan0 xac0), (.slice xaA1 xan1 xac1)] 38 (by simp)).below b8 (by first | omega | (simp [size_drew]; done) | (simp [size_drew]; omega))
      have xa := xa_; clear xa_
      obtain ⟨cpk_0, cpk_1, fpk_0, fpk_1⟩ := pk.two
      have l_pk_0 : w.heap.size < w8.heap.size := by omega
      obtain ⟨cxk_0, cxk_1, fxk_0, fxk_1⟩ := xk.two
      have l_xk_0 : w6.heap.size < w8.heap.size := by omega
      go_wp2_with fail
      clear cpk_0 cpk_1 fpk_0 fpk_1 l_pk_0 cxk_0 cxk_1 fxk_0 fxk_1 l_xk_0
      refine wp_region_held_drew (S := fun W => W.cell? ⟨w.heap.size, 0, none⟩ = some (.int .i64 kI0) ∧ W.cell? ⟨w.heap.size, 1, none⟩ = some ((.slice kA1 kn1 kc1)) ∧ W.cell? ⟨w6.heap.size, 0, none⟩ = some (.int .i64 kI0) ∧ W.cell? ⟨w6.heap.size, 1, none⟩ = some ((.slice xkA1 xkn1 xkc1))) (by kernel_rfl) ⟨pk.drew.two.1, pk.drew.two.2.1, xk.drew.two.1, xk.drew.two.2.1⟩ (fun hS => ?_)
      (refine takeH (i := 0) (by simp only [List.getElem?_toArray, List.getElem?_cons_succ, List.getElem?_cons_zero] <;> rfl) (by kernel_rfl) (by kernel_rfl) (by kernel_rfl) (by exact fun _ _ _ h => h) (by rfl) (by intro W hSw; (try dsimp only at hSw); go_simp; (first | done | with_reducible rfl)) (by assumption) ?_; (try simp only [Act.put, List.setIfInBounds_toArray, List.set_cons_zero, List.set_cons_succ]))
      (refine takeH (i := 1) (by simp only [List.getElem?_toArray, List.getElem?_cons_succ, List.getElem?_cons_zero] <;> rfl) (by kernel_rfl) (by kernel_rfl) (by kernel_rfl) (by exact fun _ _ _ h => h) (by rfl) (by intro W hSw; (try dsimp only at hSw); go_simp; (first | done | with_reducible rfl)) (by assumption) ?_; (try simp only [Act.put, List.setIfInBounds_toArray, List.set_cons_zero, List.set_cons_succ]))
      refine onlyH (i := 2) (by simp only [List.getElem?_toArray, List.getElem?_cons_succ, List.getElem?_cons_zero] <;> rfl) (by kernel_rfl) (by rfl) ?_
      refine callH (by go_simp; (first | done | with_reducible rfl | exact ⟨rfl, rfl⟩)) ?_
      go_at_call 35
      refine (toKeys_L kI0 (RdL.cons (d := .ints kL1) (kL1h.rd.below (by repeat (with_reducible (first | assumption | exact Below.refl _ _ | refine Below.alloc ?_ (by first | omega | (simp; done) | (simp; omega)) _ | refine Below.setCell ?_ (by first | omega | (simp; done) | (simp; omega)) _ | refine Below.drew ?_ | refine below_drewN ?_ _)))) RdL.nil) kL1n).mono ?_
      rintro e w9 ⟨zkA1, zkn1, zkc1, rfl, rzk, b9⟩
      clear hS
      have z9 := Below.size b9
      (try simp only [World.size_alloc, World.size_setCell, size_drew] at z9)
      have B9 : Below w.heap.size w w9 := Below.trans (b := _) (by repeat (with_reducible (first | assumption | exact Below.refl _ _ | refine Below.alloc ?_ (by first | omega | (simp; done) | (simp; omega)) _ | refine Below.setCell ?_ (by first | omega | (simp; done) | (simp; omega)) _ | refine Below.drew ?_ | refine below_drewN ?_ _))) (b9.mono (by first | omega | (simp [size_drew]; done) | (simp [size_drew]; omega)))
      have rxk_ := (rxk.drew.below b9)
      clear rxk; have rxk := rxk_; clear rxk_
      have rxa_ := (rxa.drew.below b9)
      clear rxa; have rxa := rxa_; clear rxa_
      have pk_ : Box w9 (w.heap.size) #[.int .i64 kI0, (.slice kA1 kn1 kc1)] 30 := (Box.below pk.drew b9 (by first | omega | (simp [size_drew]; done) | (simp [size_drew]; omega)))
      clear pk; have pk := pk_; clear pk_
      have pa_ : Box w9 (w.heap.size + 1) #[(.slice aA0 an0 ac0), (.slice aA1 an1 ac1)] 44 := (Box.below pa.drew b9 (by first | omega | (simp [size_drew]; done) | (simp [size_drew]; omega)))
      clear pa; have pa := pa_; clear pa_
      have xk_ : Box w9 (w6.heap.size) #[.int .i64 kI0, (.slice xkA1 xkn1 xkc1)] 33 := (Box.below xk.drew b9 (by first | omega | (simp [size_drew]; done) | (simp [size_drew]; omega)))
      clear xk; have xk := xk_; clear xk_
      have xa_ : Box w9 (w7.heap.size) #[(.slice xaA0 xan0 xac0), (.slice xaA1 xan1 xac1)] 38 := (Box.below xa.drew b9 (by first | omega | (simp [size_drew]; done) | (simp [size_drew]; omega)))
      clear xa; have xa := xa_; clear xa_
      (try simp only [World.size_alloc, World.size_setCell, size_drew] at rzk)
      refine ⟨_, rfl, ⟨pk.two.1, pk.two.2.1, xk.two.1, xk.two.2.1⟩, fun hS => ?_⟩
      (try simp only [Act.put, List.setIfInBounds_toArray, List.set_cons_zero, List.set_cons_succ])
      refine onlyH (i := 3) (by simp only [List.getElem?_toArray, List.getElem?_cons_succ, List.getElem?_cons_zero] <;> rfl) (by kernel_rfl) (by rfl) ?_
      refine callH (by go_simp; (first | done | with_reducible rfl | exact ⟨rfl, rfl⟩)) ?_
      go_at_call 37
      refine (eqKeys_L kI0 rxk.rd rzk.rd kL1n).mono ?_
      rintro e w10 ⟨rfl, b10⟩
      clear hS
      have z10 := Below.size b10
      (try simp only [World.size_alloc, World.size_setCell, size_drew] at z10)
      have B10 : Below w.heap.size w w10 := Below.trans (b := _) (by repeat (with_reducible (first | assumption | exact Below.refl _ _ | refine Below.alloc ?_ (by first | omega | (simp; done) | (simp; omega)) _ | refine Below.setCell ?_ (by first | omega | (simp; done) | (simp; omega)) _ | refine Below.drew ?_ | refine below_drewN ?_ _))) (b10.mono (by first | omega | (simp [size_drew]; done) | (simp [size_drew]; omega)))
      have rxk_ := (rxk.below b10)
      clear rxk; have rxk := rxk_; clear rxk_
      have rxa_ := (rxa.below b10)
      clear rxa; have rxa := rxa_; clear rxa_
      have rzk_ := (rzk.below b10)
      clear rzk; have rzk := rzk_; clear rzk_
      have pk_ : Box w10 (w.heap.size) #[.int .i64 kI0, (.slice kA1 kn1 kc1)] 30 := (Box.below pk b10 (by first | omega | (simp [size_drew]; done) | (simp [size_drew]; omega)))
      clear pk; have pk := pk_; clear pk_
      have pa_ : Box w10 (w.heap.size + 1) #[(.slice aA0 an0 ac0), (.slice aA1 an1 ac1)] 44 := (Box.below pa b10 (by first | omega | (simp [size_drew]; done) | (simp [size_drew]; omega)))
      clear pa; have pa := pa_; clear pa_
      have xk_ : Box w10 (w6.heap.size) #[.int .i64 kI0, (.slice xkA1 xkn1 xkc1)] 33 := (Box.below xk b10 (by first | omega | (simp [size_drew]; done) | (simp [size_drew]; omega)))
      clear xk; have xk := xk_; clear xk_
      have xa_ : Box w10 (w7.heap.size) #[(.slice xaA0 xan0 xac0), (.slice xaA1 xan1 xac1)] 38 := (Box.below xa b10 (by first | omega | (simp [size_drew]; done) | (simp [size_drew]; omega)))
      clear xa; have xa := xa_; clear xa_
      refine ⟨_, rfl, ⟨pk.two.1, pk.two.2.1, xk.two.1, xk.two.2.1⟩, fun hS => ?_⟩
      (try simp only [Act.put, List.setIfInBounds_toArray, List.set_cons_zero, List.set_cons_succ])
      (refine takeH (i := 4) (by simp only [List.getElem?_toArray, List.getElem?_cons_succ, List.getElem?_cons_zero] <;> rfl) (by kernel_rfl) (by kernel_rfl) (by kernel_rfl) (by exact fun _ _ _ h => h) (by rfl) (by intro W hSw; (try dsimp only at hSw); go_simp; (first | done | with_reducible rfl)) (by assumption) ?_; (try simp only [Act.put, List.setIfInBounds_toArray, List.set_cons_zero, List.set_cons_succ]))
      clear hS
      refine wpAnyH_done (by kernel_rfl) ?_ _
      obtain ⟨cpa_0, cpa_1, fpa_0, fpa_1⟩ := pa.two
      have l_pa_0 : w.heap.size + 1 < w10.heap.size := by omega
      obtain ⟨cxa_0, cxa_1, fxa_0, fxa_1⟩ := xa.two
      have l_xa_0 : w7.heap.size < w10.heap.size := by omega
      go_wp2_with fail
      clear cpa_0 cpa_1 fpa_0 fpa_1 l_pa_0 cxa_0 cxa_1 fxa_0 fxa_1 l_xa_0
      refine wp_region_held_drew (S := fun W => W.cell? ⟨w.heap.size + 1, 0, none⟩ = some ((.slice aA0 an0 ac0)) ∧ W.cell? ⟨w.heap.size + 1, 1, none⟩ = some ((.slice aA1 an1 ac1)) ∧ W.cell? ⟨w7.heap.size, 0, none⟩ = some ((.slice xaA0 xan0 xac0)) ∧ W.cell? ⟨w7.heap.size, 1, none⟩ = some ((.slice xaA1 xan1 xac1))) (by kernel_rfl) ⟨pa.drew.two.1, pa.drew.two.2.1, xa.drew.two.1, xa.drew.two.2.1⟩ (fun hS => ?_)
      (refine takeH (i := 0) (by simp only [List.getElem?_toArray, List.getElem?_cons_succ, List.getElem?_cons_zero] <;> rfl) (by kernel_rfl) (by kernel_rfl) (by kernel_rfl) (by exact fun _ _ _ h => h) (by rfl) (by intro W hSw; (try dsimp only at hSw); go_simp; (first | done | with_reducible rfl)) (by assumption) ?_; (try simp only [Act.put, List.setIfInBounds_toArray, List.set_cons_zero, List.set_cons_succ]))
      (refine takeH (i := 1) (by simp only [List.getElem?_toArray, List.getElem?_cons_succ, List.getElem?_cons_zero] <;> rfl) (by kernel_rfl) (by kernel_rfl) (by kernel_rfl) (by exact fun _ _ _ h => h) (by rfl) (by intro W hSw; (try dsimp only at hSw); go_simp; (first | done | with_reducible rfl)) (by assumption) ?_; (try simp only [Act.put, List.setIfInBounds_toArray, List.set_cons_zero, List.set_cons_succ]))
      refine onlyH (i := 2) (by simp only [List.getElem?_toArray, List.getElem?_cons_succ, List.getElem?_cons_zero] <;> rfl) (by kernel_rfl) (by rfl) ?_
      refine callH (by go_simp; (first | done | with_reducible rfl | exact ⟨rfl, rfl⟩)) ?_
      go_at_call 42
      refine (toAuth_L (RdL.cons (d := .ints aL0) (aL0h.rd.below (by repeat (with_reducible (first | assumption | exact Below.refl _ _ | refine Below.alloc ?_ (by first | omega | (simp; done) | (simp; omega)) _ | refine Below.setCell ?_ (by first | omega | (simp; done) | (simp; omega)) _ | refine Below.drew ?_ | refine below_drewN ?_ _)))) (RdL.cons (d := .ints aL1) (aL1h.rd.below (by repeat (with_reducible (first | assumption | exact Below.refl _ _ | refine Below.alloc ?_ (by first | omega | (simp; done) | (simp; omega)) _ | refine Below.setCell ?_ (by first | omega | (simp; done) | (simp; omega)) _ | refine Below.drew ?_ | refine below_drewN ?_ _)))) RdL.nil)) aL0n aL1n).mono ?_
      rintro e w11 ⟨zaA0, zan0, zac0, zaA1, zan1, zac1, rfl, rza, b11⟩
      clear hS
      have z11 := Below.size b11
      (try simp only [World.size_alloc, World.size_setCell, size_drew] at z11)
      have B11 : Below w.heap.size w w11 := Below.trans (b := _) (by repeat (with_reducible (first | assumption | exact Below.refl _ _ | refine Below.alloc ?_ (by first | omega | (simp; done) | (simp; omega)) _ | refine Below.setCell ?_ (by first | omega | (simp; done) | (simp; omega)) _ | refine Below.drew ?_ | refine below_drewN ?_ _))) (b11.mono (by first | omega | (simp [size_drew]; done) | (simp [size_drew]; omega)))
      have rxk_ := (rxk.drew.below b11)
      clear rxk; have rxk := rxk_; clear rxk_
      have rxa_ := (rxa.drew.below b11)
      clear rxa; have rxa := rxa_; clear rxa_
      have pk_ : Box w11 (w.heap.size) #[.int .i64 kI0, (.slice kA1 kn1 kc1)] 30 := (Box.below pk.drew b11 (by first | omega | (simp [size_drew]; done) | (simp [size_drew]; omega)))
      clear pk; have pk := pk_; clear pk_
      have pa_ : Box w11 (w.heap.size + 1) #[(.slice aA0 an0 ac0), (.slice aA1 an1 ac1)] 44 := (Box.below pa.drew b11 (by first | omega | (simp [size_drew]; done) | (simp [size_drew]; omega)))
      clear pa; have pa := pa_; clear pa_
      have xk_ : Box w11 (w6.heap.size) #[.int .i64 kI0, (.slice xkA1 xkn1 xkc1)] 33 := (Box.below xk.drew b11 (by first | omega | (simp [size_drew]; done) | (simp [size_drew]; omega)))
      clear xk; have xk := xk_; clear xk_
      have xa_ : Box w11 (w7.heap.size) #[(.slice xaA0 xan0 xac0), (.slice xaA1 xan1 xac1)] 38 := (Box.below xa.drew b11 (by first | omega | (simp [size_drew]; done) | (simp [size_drew]; omega)))
      clear xa; have xa := xa_; clear xa_
      (try simp only [World.size_alloc, World.size_setCell, size_drew] at rza)
      refine ⟨_, rfl, ⟨pa.two.1, pa.two.2.1, xa.two.1, xa.two.2.1⟩, fun hS => ?_⟩
      (try simp only [Act.put, List.setIfInBounds_toArray, List.set_cons_zero, List.set_cons_succ])
      refine onlyH (i := 3) (by simp only [List.getElem?_toArray, List.getElem?_cons_succ, List.getElem?_cons_zero] <;> rfl) (by kernel_rfl) (by rfl) ?_
      refine callH (by go_simp; (first | done | with_reducible rfl | exact ⟨rfl, rfl⟩)) ?_
      go_at_call 43
      refine (eqAuth_L rxa.rd rza.rd aL0n aL1n).mono ?_
      rintro e w12 ⟨rfl, b12⟩
      clear hS
      have z12 := Below.size b12
      (try simp only [World.size_alloc, World.size_setCell, size_drew] at z12)
      have B12 : Below w.heap.size w w12 := Below.trans (b := _) (by repeat (with_reducible (first | assumption | exact Below.refl _ _ | refine Below.alloc ?_ (by first | omega | (simp; done) | (simp; omega)) _ | refine Below.setCell ?_ (by first | omega | (simp; done) | (simp; omega)) _ | refine Below.drew ?_ | refine below_drewN ?_ _))) (b12.mono (by first | omega | (simp [size_drew]; done) | (simp [size_drew]; omega)))
      have rxk_ := (rxk.below b12)
      clear rxk; have rxk := rxk_; clear rxk_
      have rxa_ := (rxa.below b12)
      clear rxa; have rxa := rxa_; clear rxa_
      have rza_ := (rza.below b12)
      clear rza; have rza := rza_; clear rza_
      have pk_ : Box w12 (w.heap.size) #[.int .i64 kI0, (.slice kA1 kn1 kc1)] 30 := (Box.below pk b12 (by first | omega | (simp [size_drew]; done) | (simp [size_drew]; omega)))
      clear pk; have pk := pk_; clear pk_
      have pa_ : Box w12 (w.heap.size + 1) #[(.slice aA0 an0 ac0), (.slice aA1 an1 ac1)] 44 := (Box.below pa b12 (by first | omega | (simp [size_drew]; done) | (simp [size_drew]; omega)))
      clear pa; have pa := pa_; clear pa_
      have xk_ : Box w12 (w6.heap.size) #[.int .i64 kI0, (.slice xkA1 xkn1 xkc1)] 33 := (Box.below xk b12 (by first | omega | (simp [size_drew]; done) | (simp [size_drew]; omega)))
      clear xk; have xk := xk_; clear xk_
      have xa_ : Box w12 (w7.heap.size) #[(.slice xaA0 xan0 xac0), (.slice xaA1 xan1 xac1)] 38 := (Box.below xa b12 (by first | omega | (simp [size_drew]; done) | (simp [size_drew]; omega)))
      clear xa; have xa := xa_; clear xa_
      refine ⟨_, rfl, ⟨pa.two.1, pa.two.2.1, xa.two.1, xa.two.2.1⟩, fun hS => ?_⟩
      (try simp only [Act.put, List.setIfInBounds_toArray, List.set_cons_zero, List.set_cons_succ])
      (refine takeH (i := 4) (by simp only [List.getElem?_toArray, List.getElem?_cons_succ, List.getElem?_cons_zero] <;> rfl) (by kernel_rfl) (by kernel_rfl) (by kernel_rfl) (by exact fun _ _ _ h => h) (by rfl) (by intro W hSw; (try dsimp only at hSw); go_simp; (first | done | with_reducible rfl)) (by assumption) ?_; (try simp only [Act.put, List.setIfInBounds_toArray, List.set_cons_zero, List.set_cons_succ]))
      clear hS
      refine wpAnyH_done (by kernel_rfl) ?_ _
      go_wp2_with fail
      go_ret
      exact ⟨rfl, B12⟩
    · skip
      go_enter Try.func8, Try.ntmps8
      go_wp2_with fail
      refine (szKeys_yes kI0 (kL1h.below (by repeat (with_reducible (first | assumption | exact Below.refl _ _ | refine Below.alloc ?_ (by first | omega | (simp; done) | (simp; omega)) _ | refine Below.setCell ?_ (by first | omega | (simp; done) | (simp; omega)) _ | refine Below.drew ?_ | refine below_drewN ?_ _)))) (1048576) _ (by first | rfl | simp) (by omega) (by omega)).mono ?_
      rintro e w1 ⟨rfl, b1⟩
      have z1 := b1.size
      try simp only [World.size_alloc, World.size_setCell, size_drew] at z1
      have B1 : Below w.heap.size w w1 := Below.trans (b := _) (by repeat (with_reducible (first | assumption | exact Below.refl _ _ | refine Below.alloc ?_ (by first | omega | (simp; done) | (simp; omega)) _ | refine Below.setCell ?_ (by first | omega | (simp; done) | (simp; omega)) _ | refine Below.drew ?_ | refine below_drewN ?_ _))) (b1.mono (by first | omega | (simp [size_drew]; done) | (simp [size_drew]; omega)))
      have pk_ : Box w1 (w.heap.size) #[.int .i64 kI0, (.slice kA1 kn1 kc1)] 30 := ((Box.new (g := w.heap.size) _ #[.int .i64 kI0, (.slice kA1 kn1 kc1)] 30 (by simp)).alloc _).below b1 (by first | omega | (simp [size_drew]; done) | (simp [size_drew]; omega))
      have pk := pk_; clear pk_
      have pa_ : Box w1 (w.heap.size + 1) #[(.slice aA0 an0 ac0), (.slice aA1 an1 ac1)] 44 := (Box.new (g := w.heap.size + 1) _ #[(.slice aA0 an0 ac0), (.slice aA1 an1 ac1)] 44 (by simp)).below b1 (by first | omega | (simp [size_drew]; done) | (simp [size_drew]; omega))
      have pa := pa_; clear pa_
      obtain ⟨cpa_0, cpa_1, fpa_0, fpa_1⟩ := pa.two
      have l_pa_0 : w.heap.size + 1 < w1.heap.size := by omega
      go_wp2_with fail
      refine (szAuth_no (aL0h.below (by repeat (with_reducible (first | assumption | exact Below.refl _ _ | refine Below.alloc ?_ (by first | omega | (simp; done) | (simp; omega)) _ | refine Below.setCell ?_ (by first | omega | (simp; done) | (simp; omega)) _ | refine Below.drew ?_ | refine below_drewN ?_ _)))) (aL1h.below (by repeat (with_reducible (first | assumption | exact Below.refl _ _ | refine Below.alloc ?_ (by first | omega | (simp; done) | (simp; omega)) _ | refine Below.setCell ?_ (by first | omega | (simp; done) | (simp; omega)) _ | refine Below.drew ?_ | refine below_drewN ?_ _)))) (1048576 - (kL1.length)) _ (by first | rfl | simp) (by omega) (by omega)).mono ?_
      rintro e w2 ⟨rfl, b2⟩
      clear cpa_0 cpa_1 fpa_0 fpa_1 l_pa_0
      have z2 := b2.size
      try simp only [World.size_alloc, World.size_setCell, size_drew] at z2
      have B2 : Below w.heap.size w w2 := Below.trans (b := _) (by repeat (with_reducible (first | assumption | exact Below.refl _ _ | refine Below.alloc ?_ (by first | omega | (simp; done) | (simp; omega)) _ | refine Below.setCell ?_ (by first | omega | (simp; done) | (simp; omega)) _ | refine Below.drew ?_ | refine below_drewN ?_ _))) (b2.mono (by first | omega | (simp [size_drew]; done) | (simp [size_drew]; omega)))
      have pk_ : Box w2 (w.heap.size) #[.int .i64 kI0, (.slice kA1 kn1 kc1)] 30 := pk.below b2 (by first | omega | (simp [size_drew]; done) | (simp [size_drew]; omega))
      clear pk; have pk := pk_; clear pk_
      have pa_ : Box w2 (w.heap.size + 1) #[(.slice aA0 an0 ac0), (.slice aA1 an1 ac1)] 44 := pa.below b2 (by first | omega | (simp [size_drew]; done) | (simp [size_drew]; omega))
      clear pa; have pa := pa_; clear pa_
      go_wp2
      go_ret
      exact ⟨rfl, B2⟩
  · skip
    go_enter Try.func8, Try.ntmps8
    go_wp2_with fail
    refine (szKeys_no kI0 (kL1h.below (by repeat (with_reducible (first | assumption | exact Below.refl _ _ | refine Below.alloc ?_ (by first | omega | (simp; done) | (simp; omega)) _ | refine Below.setCell ?_ (by first | omega | (simp; done) | (simp; omega)) _ | refine Below.drew ?_ | refine below_drewN ?_ _)))) (1048576) _ (by first | rfl | simp) (by omega) (by omega)).mono ?_
    rintro e w1 ⟨rfl, b1⟩
    have z1 := b1.size
    try simp only [World.size_alloc, World.size_setCell, size_drew] at z1
    have B1 : Below w.heap.size w w1 := Below.trans (b := _) (by repeat (with_reducible (first | assumption | exact Below.refl _ _ | refine Below.alloc ?_ (by first | omega | (simp; done) | (simp; omega)) _ | refine Below.setCell ?_ (by first | omega | (simp; done) | (simp; omega)) _ | refine Below.drew ?_ | refine below_drewN ?_ _))) (b1.mono (by first | omega | (simp [size_drew]; done) | (simp [size_drew]; omega)))
    have pk_ : Box w1 (w.heap.size) #[.int .i64 kI0, (.slice kA1 kn1 kc1)] 30 := ((Box.new (g := w.heap.size) _ #[.int .i64 kI0, (.slice kA1 kn1 kc1)] 30 (by simp)).alloc _).below b1 (by first | omega | (simp [size_drew]; done) | (simp [size_drew]; omega))
    have pk := pk_; clear pk_
    have pa_ : Box w1 (w.heap.size + 1) #[(.slice aA0 an0 ac0), (.slice aA1 an1 ac1)] 44 := (Box.new (g := w.heap.size + 1) _ #[(.slice aA0 an0 ac0), (.slice aA1 an1 ac1)] 44 (by simp)).below b1 (by first | omega | (simp [size_drew]; done) | (simp [size_drew]; omega))
    have pa := pa_; clear pa_
    go_wp2
    go_ret
    exact ⟨rfl, B1⟩
end Go.Proofs.Ytllnnbmgdbinnaa

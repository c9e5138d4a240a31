/- The walk of the law FnExactCountPassing. Printed by laws2.py. -/
import Derived.Test.YtakmgghjpompoaaCountPass
import Derived.Test.YtakmgghjpompoaaHk
namespace Go.Proofs.Ytakmgghjpompoaa
set_option linter.unusedSimpArgs false
set_option linter.unusedVariables false
open Go.RowKit
set_option maxRecDepth 100000 in
set_option maxHeartbeats 2000000 in
theorem walk_FnExactCountPassing (aV0 : Value) (aL0 : List Int) (bV0 : Value) (bL0 : List Int) (cV0 : Value) (cL0 : List Int) (w : World) (aL0h : Rd0 w aV0 aL0) (bL0h : Rd0 w bV0 bL0) (cL0h : Rd0 w cV0 cL0) :
    Calls Try.prog 20 #[aV0, bV0, cV0] w fun e w' => e = .returned (.bool true) ∧ Below w.heap.size w w' := by
  obtain ⟨aV0A, aV0m, aV0c, rfl, aV0x, aV0I⟩ := aL0h
  by_cases aV0b : (1048576 : Int) < aV0m
  · go_enter Try.func20, Try.ntmps20
    go_wp2
    go_ret
    refine ⟨rfl, ?_⟩
    repeat (first | exact Below.refl _ _ | refine Below.alloc ?_ (by first | omega | (simp; done) | (simp; omega)) _ | refine Below.setCell ?_ (by first | omega | (simp; done) | (simp; omega)) _ | refine Below.drew ?_ | refine below_drewN ?_ _ | refine Below.trans ?_ (hb30.mono (by first | omega | (simp; done) | (simp; omega))) | refine Below.trans ?_ (hb29.mono (by first | omega | (simp; done) | (simp; omega))) | refine Below.trans ?_ (hb28.mono (by first | omega | (simp; done) | (simp; omega))) | refine Below.trans ?_ (hb27.mono (by first | omega | (simp; done) | (simp; omega))) | refine Below.trans ?_ (hb26.mono (by first | omega | (simp; done) | (simp; omega))) | refine Below.trans ?_ (hb25.mono (by first | omega | (simp; done) | (simp; omega))) | refine Below.trans ?_ (hb24.mono (by first | omega | (simp; done) | (simp; omega))) | refine Below.trans ?_ (hb23.mono (by first | omega | (simp; done) | (simp; omega))) | refine Below.trans ?_ (hb22.mono (by first | omega | (simp; done) | (simp; omega))) | refine Below.trans ?_ (hb21.mono (by first | omega | (simp; done) | (simp; omega))) | refine Below.trans ?_ (hb20.mono (by first | omega | (simp; done) | (simp; omega))) | refine Below.trans ?_ (hb19.mono (by first | omega | (simp; done) | (simp; omega))) | refine Below.trans ?_ (hb18.mono (by first | omega | (simp; done) | (simp; omega))) | refine Below.trans ?_ (hb17.mono (by first | omega | (simp; done) | (simp; omega))) | refine Below.trans ?_ (hb16.mono (by first | omega | (simp; done) | (simp; omega))) | refine Below.trans ?_ (hb15.mono (by first | omega | (simp; done) | (simp; omega))) | refine Below.trans ?_ (hb14.mono (by first | omega | (simp; done) | (simp; omega))) | refine Below.trans ?_ (hb13.mono (by first | omega | (simp; done) | (simp; omega))) | refine Below.trans ?_ (hb12.mono (by first | omega | (simp; done) | (simp; omega))) | refine Below.trans ?_ (hb11.mono (by first | omega | (simp; done) | (simp; omega))) | refine Below.trans ?_ (hb10.mono (by first | omega | (simp; done) | (simp; omega))) | refine Below.trans ?_ (hb9.mono (by first | omega | (simp; done) | (simp; omega))) | refine Below.trans ?_ (hb8.mono (by first | omega | (simp; done) | (simp; omega))) | refine Below.trans ?_ (hb7.mono (by first | omega | (simp; done) | (simp; omega))) | refine Below.trans ?_ (hb6.mono (by first | omega | (simp; done) | (simp; omega))) | refine Below.trans ?_ (hb5.mono (by first | omega | (simp; done) | (simp; omega))) | refine Below.trans ?_ (hb4.mono (by first | omega | (simp; done) | (simp; omega))) | refine Below.trans ?_ (hb3.mono (by first | omega | (simp; done) | (simp; omega))) | refine Below.trans ?_ (hb2.mono (by first | omega | (simp; done) | (simp; omega))) | refine Below.trans ?_ (hb1.mono (by first | omega | (simp; done) | (simp; omega))))
  · skip
    have aL0h : Rd0 w (.slice aV0A aV0m aV0c) aL0 := ⟨_, _, _, rfl, aV0x, aV0I⟩
    have aL0n : aL0.length ≤ 1048576 := by rw [aV0I.len]; omega
    obtain ⟨bV0A, bV0m, bV0c, rfl, bV0x, bV0I⟩ := bL0h
    by_cases bV0b : (1048576 : Int) < bV0m
    · go_enter Try.func20, Try.ntmps20
      go_wp2
      go_ret
      refine ⟨rfl, ?_⟩
      repeat (first | exact Below.refl _ _ | refine Below.alloc ?_ (by first | omega | (simp; done) | (simp; omega)) _ | refine Below.setCell ?_ (by first | omega | (simp; done) | (simp; omega)) _ | refine Below.drew ?_ | refine below_drewN ?_ _ | refine Below.trans ?_ (hb30.mono (by first | omega | (simp; done) | (simp; omega))) | refine Below.trans ?_ (hb29.mono (by first | omega | (simp; done) | (simp; omega))) | refine Below.trans ?_ (hb28.mono (by first | omega | (simp; done) | (simp; omega))) | refine Below.trans ?_ (hb27.mono (by first | omega | (simp; done) | (simp; omega))) | refine Below.trans ?_ (hb26.mono (by first | omega | (simp; done) | (simp; omega))) | refine Below.trans ?_ (hb25.mono (by first | omega | (simp; done) | (simp; omega))) | refine Below.trans ?_ (hb24.mono (by first | omega | (simp; done) | (simp; omega))) | refine Below.trans ?_ (hb23.mono (by first | omega | (simp; done) | (simp; omega))) | refine Below.trans ?_ (hb22.mono (by first | omega | (simp; done) | (simp; omega))) | refine Below.trans ?_ (hb21.mono (by first | omega | (simp; done) | (simp; omega))) | refine Below.trans ?_ (hb20.mono (by first | omega | (simp; done) | (simp; omega))) | refine Below.trans ?_ (hb19.mono (by first | omega | (simp; done) | (simp; omega))) | refine Below.trans ?_ (hb18.mono (by first | omega | (simp; done) | (simp; omega))) | refine Below.trans ?_ (hb17.mono (by first | omega | (simp; done) | (simp; omega))) | refine Below.trans ?_ (hb16.mono (by first | omega | (simp; done) | (simp; omega))) | refine Below.trans ?_ (hb15.mono (by first | omega | (simp; done) | (simp; omega))) | refine Below.trans ?_ (hb14.mono (by first | omega | (simp; done) | (simp; omega))) | refine Below.trans ?_ (hb13.mono (by first | omega | (simp; done) | (simp; omega))) | refine Below.trans ?_ (hb12.mono (by first | omega | (simp; done) | (simp; omega))) | refine Below.trans ?_ (hb11.mono (by first | omega | (simp; done) | (simp; omega))) | refine Below.trans ?_ (hb10.mono (by first | omega | (simp; done) | (simp; omega))) | refine Below.trans ?_ (hb9.mono (by first | omega | (simp; done) | (simp; omega))) | refine Below.trans ?_ (hb8.mono (by first | omega | (simp; done) | (simp; omega))) | refine Below.trans ?_ (hb7.mono (by first | omega | (simp; done) | (simp; omega))) | refine Below.trans ?_ (hb6.mono (by first | omega | (simp; done) | (simp; omega))) | refine Below.trans ?_ (hb5.mono (by first | omega | (simp; done) | (simp; omega))) | refine Below.trans ?_ (hb4.mono (by first | omega | (simp; done) | (simp; omega))) | refine Below.trans ?_ (hb3.mono (by first | omega | (simp; done) | (simp; omega))) | refine Below.trans ?_ (hb2.mono (by first | omega | (simp; done) | (simp; omega))) | refine Below.trans ?_ (hb1.mono (by first | omega | (simp; done) | (simp; omega))))
    · skip
      have bL0h : Rd0 w (.slice bV0A bV0m bV0c) bL0 := ⟨_, _, _, rfl, bV0x, bV0I⟩
      have bL0n : bL0.length ≤ 1048576 := by rw [bV0I.len]; omega
      obtain ⟨cV0A, cV0m, cV0c, rfl, cV0x, cV0I⟩ := cL0h
      by_cases cV0b : (1048576 : Int) < cV0m
      · go_enter Try.func20, Try.ntmps20
        go_wp2
        go_ret
        refine ⟨rfl, ?_⟩
        repeat (first | exact Below.refl _ _ | refine Below.alloc ?_ (by first | omega | (simp; done) | (simp; omega)) _ | refine Below.setCell ?_ (by first | omega | (simp; done) | (simp; omega)) _ | refine Below.drew ?_ | refine below_drewN ?_ _ | refine Below.trans ?_ (hb30.mono (by first | omega | (simp; done) | (simp; omega))) | refine Below.trans ?_ (hb29.mono (by first | omega | (simp; done) | (simp; omega))) | refine Below.trans ?_ (hb28.mono (by first | omega | (simp; done) | (simp; omega))) | refine Below.trans ?_ (hb27.mono (by first | omega | (simp; done) | (simp; omega))) | refine Below.trans ?_ (hb26.mono (by first | omega | (simp; done) | (simp; omega))) | refine Below.trans ?_ (hb25.mono (by first | omega | (simp; done) | (simp; omega))) | refine Below.trans ?_ (hb24.mono (by first | omega | (simp; done) | (simp; omega))) | refine Below.trans ?_ (hb23.mono (by first | omega | (simp; done) | (simp; omega))) | refine Below.trans ?_ (hb22.mono (by first | omega | (simp; done) | (simp; omega))) | refine Below.trans ?_ (hb21.mono (by first | omega | (simp; done) | (simp; omega))) | refine Below.trans ?_ (hb20.mono (by first | omega | (simp; done) | (simp; omega))) | refine Below.trans ?_ (hb19.mono (by first | omega | (simp; done) | (simp; omega))) | refine Below.trans ?_ (hb18.mono (by first | omega | (simp; done) | (simp; omega))) | refine Below.trans ?_ (hb17.mono (by first | omega | (simp; done) | (simp; omega))) | refine Below.trans ?_ (hb16.mono (by first | omega | (simp; done) | (simp; omega))) | refine Below.trans ?_ (hb15.mono (by first | omega | (simp; done) | (simp; omega))) | refine Below.trans ?_ (hb14.mono (by first | omega | (simp; done) | (simp; omega))) | refine Below.trans ?_ (hb13.mono (by first | omega | (simp; done) | (simp; omega))) | refine Below.trans ?_ (hb12.mono (by first | omega | (simp; done) | (simp; omega))) | refine Below.trans ?_ (hb11.mono (by first | omega | (simp; done) | (simp; omega))) | refine Below.trans ?_ (hb10.mono (by first | omega | (simp; done) | (simp; omega))) | refine Below.trans ?_ (hb9.mono (by first | omega | (simp; done) | (simp; omega))) | refine Below.trans ?_ (hb8.mono (by first | omega | (simp; done) | (simp; omega))) | refine Below.trans ?_ (hb7.mono (by first | omega | (simp; done) | (simp; omega))) | refine Below.trans ?_ (hb6.mono (by first | omega | (simp; done) | (simp; omega))) | refine Below.trans ?_ (hb5.mono (by first | omega | (simp; done) | (simp; omega))) | refine Below.trans ?_ (hb4.mono (by first | omega | (simp; done) | (simp; omega))) | refine Below.trans ?_ (hb3.mono (by first | omega | (simp; done) | (simp; omega))) | refine Below.trans ?_ (hb2.mono (by first | omega | (simp; done) | (simp; omega))) | refine Below.trans ?_ (hb1.mono (by first | omega | (simp; done) | (simp; omega))))
      · skip
        have cL0h : Rd0 w (.slice cV0A cV0m cV0c) cL0 := ⟨_, _, _, rfl, cV0x, cV0I⟩
        have cL0n : cL0.length ≤ 1048576 := by rw [cV0I.len]; omega
        go_enter Try.func20, Try.ntmps20
        go_wp2_with fail
        refine (toIntS_L (RdL.cons (d := .ints aL0) (aL0h.rd.below (by repeat (with_reducible (first | assumption | exact Below.refl _ _ | refine Below.alloc ?_ (by first | omega | (simp; done) | (simp; omega)) _ | refine Below.setCell ?_ (by first | omega | (simp; done) | (simp; omega)) _ | refine Below.drew ?_ | refine below_drewN ?_ _)))) RdL.nil) aL0n).mono ?_
        rintro e w1 ⟨saV0, rfl, rsa, b1⟩
        have z1 := b1.size
        try simp only [World.size_alloc, World.size_setCell] at z1
        have B1 : Below w.heap.size w w1 := Below.trans (b := _) (by repeat (with_reducible (first | assumption | exact Below.refl _ _ | refine Below.alloc ?_ (by first | omega | (simp; done) | (simp; omega)) _ | refine Below.setCell ?_ (by first | omega | (simp; done) | (simp; omega)) _ | refine Below.drew ?_ | refine below_drewN ?_ _))) (b1.mono (by first | omega | (simp; done) | (simp; omega)))
        try simp only [World.size_alloc, World.size_setCell] at rsa
        go_wp2_with fail
        refine (toIntS_L (RdL.cons (d := .ints bL0) (bL0h.rd.below (by repeat (with_reducible (first | assumption | exact Below.refl _ _ | refine Below.alloc ?_ (by first | omega | (simp; done) | (simp; omega)) _ | refine Below.setCell ?_ (by first | omega | (simp; done) | (simp; omega)) _ | refine Below.drew ?_ | refine below_drewN ?_ _)))) RdL.nil) bL0n).mono ?_
        rintro e w2 ⟨sbV0, rfl, rsb, b2⟩
        have z2 := b2.size
        try simp only [World.size_alloc, World.size_setCell] at z2
        have B2 : Below w.heap.size w w2 := Below.trans (b := _) (by repeat (with_reducible (first | assumption | exact Below.refl _ _ | refine Below.alloc ?_ (by first | omega | (simp; done) | (simp; omega)) _ | refine Below.setCell ?_ (by first | omega | (simp; done) | (simp; omega)) _ | refine Below.drew ?_ | refine below_drewN ?_ _))) (b2.mono (by first | omega | (simp; done) | (simp; omega)))
        have rsa_ := rsa.below b2
        clear rsa; have rsa := rsa_; clear rsa_
        try simp only [World.size_alloc, World.size_setCell] at rsb
        go_wp2_with fail
        refine (toIntS_L (RdL.cons (d := .ints cL0) (cL0h.rd.below (by repeat (with_reducible (first | assumption | exact Below.refl _ _ | refine Below.alloc ?_ (by first | omega | (simp; done) | (simp; omega)) _ | refine Below.setCell ?_ (by first | omega | (simp; done) | (simp; omega)) _ | refine Below.drew ?_ | refine below_drewN ?_ _)))) RdL.nil) cL0n).mono ?_
        rintro e w3 ⟨scV0, rfl, rsc, b3⟩
        have z3 := b3.size
        try simp only [World.size_alloc, World.size_setCell] at z3
        have B3 : Below w.heap.size w w3 := Below.trans (b := _) (by repeat (with_reducible (first | assumption | exact Below.refl _ _ | refine Below.alloc ?_ (by first | omega | (simp; done) | (simp; omega)) _ | refine Below.setCell ?_ (by first | omega | (simp; done) | (simp; omega)) _ | refine Below.drew ?_ | refine below_drewN ?_ _))) (b3.mono (by first | omega | (simp; done) | (simp; omega)))
        have rsa_ := rsa.below b3
        clear rsa; have rsa := rsa_; clear rsa_
        have rsb_ := rsb.below b3
        clear rsb; have rsb := rsb_; clear rsb_
        try simp only [World.size_alloc, World.size_setCell] at rsc
        go_wp2_with fail
        refine (sCountPassing_L rsa.rd aL0n rsb.rd bL0n rsc.rd cL0n).mono ?_
        rintro e w4 ⟨rfl, b4⟩
        have z4 := b4.size
        try simp only [World.size_alloc, World.size_setCell] at z4
        have B4 : Below w.heap.size w w4 := Below.trans (b := _) (by repeat (with_reducible (first | assumption | exact Below.refl _ _ | refine Below.alloc ?_ (by first | omega | (simp; done) | (simp; omega)) _ | refine Below.setCell ?_ (by first | omega | (simp; done) | (simp; omega)) _ | refine Below.drew ?_ | refine below_drewN ?_ _))) (b4.mono (by first | omega | (simp; done) | (simp; omega)))
        have rsa_ := rsa.below b4
        clear rsa; have rsa := rsa_; clear rsa_
        have rsb_ := rsb.below b4
        clear rsb; have rsb := rsb_; clear rsb_
        have rsc_ := rsc.below b4
        clear rsc; have rsc := rsc_; clear rsc_
        go_wp2_with fail
        refine (toIntS_L (RdL.cons (d := .ints aL0) (aL0h.rd.below (by repeat (with_reducible (first | assumption | exact Below.refl _ _ | refine Below.alloc ?_ (by first | omega | (simp; done) | (simp; omega)) _ | refine Below.setCell ?_ (by first | omega | (simp; done) | (simp; omega)) _ | refine Below.drew ?_ | refine below_drewN ?_ _)))) RdL.nil) aL0n).mono ?_
        rintro e w5 ⟨xaV0, rfl, rxa, b5⟩
        have z5 := b5.size
        try simp only [World.size_alloc, World.size_setCell] at z5
        have B5 : Below w.heap.size w w5 := Below.trans (b := _) (by repeat (with_reducible (first | assumption | exact Below.refl _ _ | refine Below.alloc ?_ (by first | omega | (simp; done) | (simp; omega)) _ | refine Below.setCell ?_ (by first | omega | (simp; done) | (simp; omega)) _ | refine Below.drew ?_ | refine below_drewN ?_ _))) (b5.mono (by first | omega | (simp; done) | (simp; omega)))
        try simp only [World.size_alloc, World.size_setCell] at rxa
        go_wp2_with fail
        refine (toIntS_L (RdL.cons (d := .ints bL0) (bL0h.rd.below (by repeat (with_reducible (first | assumption | exact Below.refl _ _ | refine Below.alloc ?_ (by first | omega | (simp; done) | (simp; omega)) _ | refine Below.setCell ?_ (by first | omega | (simp; done) | (simp; omega)) _ | refine Below.drew ?_ | refine below_drewN ?_ _)))) RdL.nil) bL0n).mono ?_
        rintro e w6 ⟨xbV0, rfl, rxb, b6⟩
        have z6 := b6.size
        try simp only [World.size_alloc, World.size_setCell] at z6
        have B6 : Below w.heap.size w w6 := Below.trans (b := _) (by repeat (with_reducible (first | assumption | exact Below.refl _ _ | refine Below.alloc ?_ (by first | omega | (simp; done) | (simp; omega)) _ | refine Below.setCell ?_ (by first | omega | (simp; done) | (simp; omega)) _ | refine Below.drew ?_ | refine below_drewN ?_ _))) (b6.mono (by first | omega | (simp; done) | (simp; omega)))
        have rxa_ := rxa.below b6
        clear rxa; have rxa := rxa_; clear rxa_
        try simp only [World.size_alloc, World.size_setCell] at rxb
        go_wp2_with fail
        refine (toIntS_L (RdL.cons (d := .ints cL0) (cL0h.rd.below (by repeat (with_reducible (first | assumption | exact Below.refl _ _ | refine Below.alloc ?_ (by first | omega | (simp; done) | (simp; omega)) _ | refine Below.setCell ?_ (by first | omega | (simp; done) | (simp; omega)) _ | refine Below.drew ?_ | refine below_drewN ?_ _)))) RdL.nil) cL0n).mono ?_
        rintro e w7 ⟨xcV0, rfl, rxc, b7⟩
        have z7 := b7.size
        try simp only [World.size_alloc, World.size_setCell] at z7
        have B7 : Below w.heap.size w w7 := Below.trans (b := _) (by repeat (with_reducible (first | assumption | exact Below.refl _ _ | refine Below.alloc ?_ (by first | omega | (simp; done) | (simp; omega)) _ | refine Below.setCell ?_ (by first | omega | (simp; done) | (simp; omega)) _ | refine Below.drew ?_ | refine below_drewN ?_ _))) (b7.mono (by first | omega | (simp; done) | (simp; omega)))
        have rxa_ := rxa.below b7
        clear rxa; have rxa := rxa_; clear rxa_
        have rxb_ := rxb.below b7
        clear rxb; have rxb := rxb_; clear rxb_
        try simp only [World.size_alloc, World.size_setCell] at rxc
        go_wp2_with fail
        refine (iCountPassing_L rxa.rd aL0n rxb.rd bL0n rxc.rd cL0n).mono ?_
        rintro e w8 ⟨rfl, b8⟩
        have z8 := b8.size
        try simp only [World.size_alloc, World.size_setCell] at z8
        have B8 : Below w.heap.size w w8 := Below.trans (b := _) (by repeat (with_reducible (first | assumption | exact Below.refl _ _ | refine Below.alloc ?_ (by first | omega | (simp; done) | (simp; omega)) _ | refine Below.setCell ?_ (by first | omega | (simp; done) | (simp; omega)) _ | refine Below.drew ?_ | refine below_drewN ?_ _))) (b8.mono (by first | omega | (simp; done) | (simp; omega)))
        have rxa_ := rxa.below b8
        clear rxa; have rxa := rxa_; clear rxa_
        have rxb_ := rxb.below b8
        clear rxb; have rxb := rxb_; clear rxb_
        have rxc_ := rxc.below b8
        clear rxc; have rxc := rxc_; clear rxc_
        go_wp2_with fail
        refine (toIntS_L (RdL.cons (d := .ints aL0) (aL0h.rd.below (by repeat (with_reducible (first | assumption | exact Below.refl _ _ | refine Below.alloc ?_ (by first | omega | (simp; done) | (simp; omega)) _ | refine Below.setCell ?_ (by first | omega | (simp; done) | (simp; omega)) _ | refine Below.drew ?_ | refine below_drewN ?_ _)))) RdL.nil) aL0n).mono ?_
        rintro e w9 ⟨zaV0, rfl, rza, b9⟩
        have z9 := b9.size
        try simp only [World.size_alloc, World.size_setCell] at z9
        have B9 : Below w.heap.size w w9 := Below.trans (b := _) (by repeat (with_reducible (first | assumption | exact Below.refl _ _ | refine Below.alloc ?_ (by first | omega | (simp; done) | (simp; omega)) _ | refine Below.setCell ?_ (by first | omega | (simp; done) | (simp; omega)) _ | refine Below.drew ?_ | refine below_drewN ?_ _))) (b9.mono (by first | omega | (simp; done) | (simp; omega)))
        have rxa_ := rxa.below b9
        clear rxa; have rxa := rxa_; clear rxa_
        have rxb_ := rxb.below b9
        clear rxb; have rxb := rxb_; clear rxb_
        have rxc_ := rxc.below b9
        clear rxc; have rxc := rxc_; clear rxc_
        try simp only [World.size_alloc, World.size_setCell] at rza
        go_wp2_with fail
        refine (eqIntS_L rxa.rd rza.rd aL0n).mono ?_
        rintro e w10 ⟨rfl, b10⟩
        have z10 := b10.size
        try simp only [World.size_alloc, World.size_setCell] at z10
        have B10 : Below w.heap.size w w10 := Below.trans (b := _) (by repeat (with_reducible (first | assumption | exact Below.refl _ _ | refine Below.alloc ?_ (by first | omega | (simp; done) | (simp; omega)) _ | refine Below.setCell ?_ (by first | omega | (simp; done) | (simp; omega)) _ | refine Below.drew ?_ | refine below_drewN ?_ _))) (b10.mono (by first | omega | (simp; done) | (simp; omega)))
        have rxa_ := rxa.below b10
        clear rxa; have rxa := rxa_; clear rxa_
        have rxb_ := rxb.below b10
        clear rxb; have rxb := rxb_; clear rxb_
        have rxc_ := rxc.below b10
        clear rxc; have rxc := rxc_; clear rxc_
        have rza_ := rza.below b10
        clear rza; have rza := rza_; clear rza_
        go_wp2_with fail
        refine (toIntS_L (RdL.cons (d := .ints bL0) (bL0h.rd.below (by repeat (with_reducible (first | assumption | exact Below.refl _ _ | refine Below.alloc ?_ (by first | omega | (simp; done) | (simp; omega)) _ | refine Below.setCell ?_ (by first | omega | (simp; done) | (simp; omega)) _ | refine Below.drew ?_ | refine below_drewN ?_ _)))) RdL.nil) bL0n).mono ?_
        rintro e w11 ⟨zbV0, rfl, rzb, b11⟩
        have z11 := b11.size
        try simp only [World.size_alloc, World.size_setCell] at z11
        have B11 : Below w.heap.size w w11 := Below.trans (b := _) (by repeat (with_reducible (first | assumption | exact Below.refl _ _ | refine Below.alloc ?_ (by first | omega | (simp; done) | (simp; omega)) _ | refine Below.setCell ?_ (by first | omega | (simp; done) | (simp; omega)) _ | refine Below.drew ?_ | refine below_drewN ?_ _))) (b11.mono (by first | omega | (simp; done) | (simp; omega)))
        have rxa_ := rxa.below b11
        clear rxa; have rxa := rxa_; clear rxa_
        have rxb_ := rxb.below b11
        clear rxb; have rxb := rxb_; clear rxb_
        have rxc_ := rxc.below b11
        clear rxc; have rxc := rxc_; clear rxc_
        try simp only [World.size_alloc, World.size_setCell] at rzb
        go_wp2_with fail
        refine (eqIntS_L rxb.rd rzb.rd bL0n).mono ?_
        rintro e w12 ⟨rfl, b12⟩
        have z12 := b12.size
        try simp only [World.size_alloc, World.size_setCell] at z12
        have B12 : Below w.heap.size w w12 := Below.trans (b := _) (by repeat (with_reducible (first | assumption | exact Below.refl _ _ | refine Below.alloc ?_ (by first | omega | (simp; done) | (simp; omega)) _ | refine Below.setCell ?_ (by first | omega | (simp; done) | (simp; omega)) _ | refine Below.drew ?_ | refine below_drewN ?_ _))) (b12.mono (by first | omega | (simp; done) | (simp; omega)))
        have rxa_ := rxa.below b12
        clear rxa; have rxa := rxa_; clear rxa_
        have rxb_ := rxb.below b12
        clear rxb; have rxb := rxb_; clear rxb_
        have rxc_ := rxc.below b12
        clear rxc; have rxc := rxc_; clear rxc_
        have rzb_ := rzb.below b12
        clear rzb; have rzb := rzb_; clear rzb_
        go_wp2_with fail
        refine (toIntS_L (RdL.cons (d := .ints cL0) (cL0h.rd.below (by repeat (with_reducible (first | assumption | exact Below.refl _ _ | refine Below.alloc ?_ (by first | omega | (simp; done) | (simp; omega)) _ | refine Below.setCell ?_ (by first | omega | (simp; done) | (simp; omega)) _ | refine Below.drew ?_ | refine below_drewN ?_ _)))) RdL.nil) cL0n).mono ?_
        rintro e w13 ⟨zcV0, rfl, rzc, b13⟩
        have z13 := b13.size
        try simp only [World.size_alloc, World.size_setCell] at z13
        have B13 : Below w.heap.size w w13 := Below.trans (b := _) (by repeat (with_reducible (first | assumption | exact Below.refl _ _ | refine Below.alloc ?_ (by first | omega | (simp; done) | (simp; omega)) _ | refine Below.setCell ?_ (by first | omega | (simp; done) | (simp; omega)) _ | refine Below.drew ?_ | refine below_drewN ?_ _))) (b13.mono (by first | omega | (simp; done) | (simp; omega)))
        have rxa_ := rxa.below b13
        clear rxa; have rxa := rxa_; clear rxa_
        have rxb_ := rxb.below b13
        clear rxb; have rxb := rxb_; clear rxb_
        have rxc_ := rxc.below b13
        clear rxc; have rxc := rxc_; clear rxc_
        try simp only [World.size_alloc, World.size_setCell] at rzc
        go_wp2_with fail
        refine (eqIntS_L rxc.rd rzc.rd cL0n).mono ?_
        rintro e w14 ⟨rfl, b14⟩
        have z14 := b14.size
        try simp only [World.size_alloc, World.size_setCell] at z14
        have B14 : Below w.heap.size w w14 := Below.trans (b := _) (by repeat (with_reducible (first | assumption | exact Below.refl _ _ | refine Below.alloc ?_ (by first | omega | (simp; done) | (simp; omega)) _ | refine Below.setCell ?_ (by first | omega | (simp; done) | (simp; omega)) _ | refine Below.drew ?_ | refine below_drewN ?_ _))) (b14.mono (by first | omega | (simp; done) | (simp; omega)))
        have rxa_ := rxa.below b14
        clear rxa; have rxa := rxa_; clear rxa_
        have rxb_ := rxb.below b14
        clear rxb; have rxb := rxb_; clear rxb_
        have rxc_ := rxc.below b14
        clear rxc; have rxc := rxc_; clear rxc_
        have rzc_ := rzc.below b14
        clear rzc; have rzc := rzc_; clear rzc_
        go_wp2_with fail
        go_ret
        exact ⟨rfl, B14⟩
end Go.Proofs.Ytakmgghjpompoaa

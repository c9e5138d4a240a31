/- The walk of the law FnExactExtSend. -/
import Derived.Test.YtakmgghjpompoaaExtSendR
import Derived.Test.YtakmgghjpompoaaChg
import Derived.Test.YtakmgghjpompoaaOpenS
namespace Go.Proofs.Ytakmgghjpompoaa
set_option linter.unusedSimpArgs false
set_option linter.unusedVariables false
open Go.RowKit
set_option maxRecDepth 100000 in
set_option maxHeartbeats 1000000 in
theorem walk_FnExactExtSend (Aa : Option Addr) (na ca : Nat) (la : List Int) (Ab : Option Addr) (nb cb : Nat) (lb : List Int) (s : Int) (w : World) (hxa : Ints0 w Aa na la) (hxb : Ints0 w Ab nb lb) :
    Calls Try.prog 14 #[.slice Aa na ca, .slice Ab nb cb, .int .i64 s] w fun e w' => e = .returned (.bool true) ∧ Below w.heap.size w w' := by
  by_cases hna : (1048576 : Int) < na
  · go_enter Try.func14, Try.ntmps14
    go_wp2
    go_ret
    exact ⟨rfl, Below.refl _ _⟩
  · skip
    by_cases hnb : (1048576 : Int) < nb
    · go_enter Try.func14, Try.ntmps14
      go_wp2
      go_ret
      exact ⟨rfl, Below.refl _ _⟩
    · skip
      have hAa : Rd w (.slice Aa na ca) la := ⟨_, _, _, rfl, hxa.2⟩
      have hla : la.length ≤ 1048576 := by rw [hxa.2.len]; omega
      have hAb : Rd w (.slice Ab nb cb) lb := ⟨_, _, _, rfl, hxb.2⟩
      have hlb : lb.length ≤ 1048576 := by rw [hxb.2.len]; omega
      have hr0 : (extSendL la lb s).length ≤ 1048576 := Nat.le_trans (extSend_len _ _ _) (by omega)
      go_enter Try.func14, Try.ntmps14
      go_wp2_with fail
      refine (toIntS_R hAa hla).mono ?_
      rintro e w1 ⟨vsa, rfl, rsa, b1⟩
      have z1 : w.heap.size ≤ w1.heap.size := b1.size
      have B1 : Below w.heap.size w w1 := (Below.refl _ _).trans (b1.mono (by omega))
      go_wp2_with fail
      refine (toIntS_R (hAb.below B1) hlb).mono ?_
      rintro e w2 ⟨vsb, rfl, rsb, b2⟩
      have z2 : w1.heap.size ≤ w2.heap.size := b2.size
      have B2 : Below w.heap.size w w2 := B1.trans (b2.mono (by omega))
      have rsa := rsa.below b2
      go_wp2_with fail
      refine (sExtSend_R s rsa.rd rsb.rd hla hlb).mono ?_
      rintro e w3 ⟨vw0, rfl, rw0, b3⟩
      have z3 : w2.heap.size ≤ w3.heap.size := b3.size
      have B3 : Below w.heap.size w w3 := B2.trans (b3.mono (by omega))
      have rsa := rsa.below b3
      have rsb := rsb.below b3
      go_wp2_with fail
      refine (toIntS_R (hAa.below B3) hla).mono ?_
      rintro e w4 ⟨vxa, rfl, rxa, b4⟩
      have z4 : w3.heap.size ≤ w4.heap.size := b4.size
      have B4 : Below w.heap.size w w4 := B3.trans (b4.mono (by omega))
      have rw0 := rw0.below b4
      go_wp2_with fail
      refine (toIntS_R (hAb.below B4) hlb).mono ?_
      rintro e w5 ⟨vxb, rfl, rxb, b5⟩
      have z5 : w4.heap.size ≤ w5.heap.size := b5.size
      have B5 : Below w.heap.size w w5 := B4.trans (b5.mono (by omega))
      have rw0 := rw0.below b5
      have rxa := rxa.below b5
      go_wp2_with fail
      refine (iExtSend_R s rxa.rd rxb.rd hla hlb).mono ?_
      rintro e w6 ⟨vg0, rfl, rg0, b6⟩
      have z6 : w5.heap.size ≤ w6.heap.size := b6.size
      have B6 : Below w.heap.size w w6 := B5.trans (b6.mono (by omega))
      have rw0 := rw0.below b6
      have rxa := rxa.below b6
      have rxb := rxb.below b6
      go_wp2_with fail
      refine (eqIntS_R rg0.rd rw0.rd hr0).mono ?_
      rintro e w7 ⟨rfl, b7⟩
      have z7 : w6.heap.size ≤ w7.heap.size := b7.size
      have B7 : Below w.heap.size w w7 := B6.trans (b7.mono (by omega))
      have rw0 := rw0.below b7
      have rxa := rxa.below b7
      have rxb := rxb.below b7
      have rg0 := rg0.below b7
      go_wp2_with fail
      refine (toIntS_R (hAa.below B7) hla).mono ?_
      rintro e w8 ⟨vya, rfl, rya, b8⟩
      have z8 : w7.heap.size ≤ w8.heap.size := b8.size
      have B8 : Below w.heap.size w w8 := B7.trans (b8.mono (by omega))
      have rw0 := rw0.below b8
      have rxa := rxa.below b8
      have rxb := rxb.below b8
      have rg0 := rg0.below b8
      go_wp2_with fail
      refine (eqIntS_R rxa.rd rya.rd hla).mono ?_
      rintro e w9 ⟨rfl, b9⟩
      have z9 : w8.heap.size ≤ w9.heap.size := b9.size
      have B9 : Below w.heap.size w w9 := B8.trans (b9.mono (by omega))
      have rw0 := rw0.below b9
      have rxa := rxa.below b9
      have rxb := rxb.below b9
      have rg0 := rg0.below b9
      have rya := rya.below b9
      go_wp2_with fail
      refine (toIntS_R (hAb.below B9) hlb).mono ?_
      rintro e w10 ⟨vyb, rfl, ryb, b10⟩
      have z10 : w9.heap.size ≤ w10.heap.size := b10.size
      have B10 : Below w.heap.size w w10 := B9.trans (b10.mono (by omega))
      have rw0 := rw0.below b10
      have rxa := rxa.below b10
      have rxb := rxb.below b10
      have rg0 := rg0.below b10
      go_wp2_with fail
      refine (eqIntS_R rxb.rd ryb.rd hlb).mono ?_
      rintro e w11 ⟨rfl, b11⟩
      have z11 : w10.heap.size ≤ w11.heap.size := b11.size
      have B11 : Below w.heap.size w w11 := B10.trans (b11.mono (by omega))
      have rw0 := rw0.below b11
      have rxa := rxa.below b11
      have rxb := rxb.below b11
      have rg0 := rg0.below b11
      have ryb := ryb.below b11
      go_wp2_with fail
      refine (markIntS_R (1) _ rxa (by simp; try omega) hla (by omega)).mono ?_
      rintro e w12 ⟨rfl, rxa, c12⟩
      have z12 : w11.heap.size ≤ w12.heap.size := c12.size
      have B12 : Below w.heap.size w w12 := B11.trans (c12.below (by omega) (by omega))
      have rw0 := rw0.away c12 (by omega)
      have rxb := rxb.away c12 (by omega)
      have rg0 := rg0.away c12 (by omega)
      go_wp2_with fail
      refine (markIntS_R (1 + la.length) _ rxb (by simp; try omega) hlb (by omega)).mono ?_
      rintro e w13 ⟨rfl, rxb, c13⟩
      have z13 : w12.heap.size ≤ w13.heap.size := c13.size
      have B13 : Below w.heap.size w w13 := B12.trans (c13.below (by omega) (by omega))
      have rw0 := rw0.away c13 (by omega)
      have rxa := rxa.away c13 (by omega)
      have rg0 := rg0.away c13 (by omega)
      go_wp2_with fail
      refine (eqIntS_R rg0.rd rw0.rd hr0).mono ?_
      rintro e w14 ⟨rfl, b14⟩
      have z14 : w13.heap.size ≤ w14.heap.size := b14.size
      have B14 : Below w.heap.size w w14 := B13.trans (b14.mono (by omega))
      have rw0 := rw0.below b14
      have rxa := rxa.below b14
      have rxb := rxb.below b14
      have rg0 := rg0.below b14
      go_wp2_with fail
      refine (markIntS_R (1) _ rg0 (by simp; try omega) hr0 (by omega)).mono ?_
      rintro e w15 ⟨rfl, rg0, c15⟩
      have z15 : w14.heap.size ≤ w15.heap.size := c15.size
      have B15 : Below w.heap.size w w15 := B14.trans (c15.below (by omega) (by omega))
      have rw0 := rw0.away c15 (by omega)
      go_wp2_with fail
      refine (heldIntS_R (1) _ rg0.rd (by simp; try omega) hr0 (by omega)).mono ?_
      rintro e w_ ⟨rfl, rfl⟩
      go_wp2_with fail
      refine (toIntS_R (hAa.below B15) hla).mono ?_
      rintro e w16 ⟨vta, rfl, rta, b16⟩
      have z16 : w15.heap.size ≤ w16.heap.size := b16.size
      have B16 : Below w.heap.size w w16 := B15.trans (b16.mono (by omega))
      have rw0 := rw0.below b16
      have rg0 := rg0.below b16
      go_wp2_with fail
      refine (toIntS_R (hAb.below B16) hlb).mono ?_
      rintro e w17 ⟨vtb, rfl, rtb, b17⟩
      have z17 : w16.heap.size ≤ w17.heap.size := b17.size
      have B17 : Below w.heap.size w w17 := B16.trans (b17.mono (by omega))
      have rw0 := rw0.below b17
      have rg0 := rg0.below b17
      have rta := rta.below b17
      go_wp2_with fail
      refine (iExtSend_R s rta.rd rtb.rd hla hlb).mono ?_
      rintro e w18 ⟨vh0, rfl, rh0, b18⟩
      have z18 : w17.heap.size ≤ w18.heap.size := b18.size
      have B18 : Below w.heap.size w w18 := B17.trans (b18.mono (by omega))
      have rw0 := rw0.below b18
      have rg0 := rg0.below b18
      have rta := rta.below b18
      have rtb := rtb.below b18
      go_wp2_with fail
      refine (eqIntS_R rh0.rd rw0.rd hr0).mono ?_
      rintro e w19 ⟨rfl, b19⟩
      have z19 : w18.heap.size ≤ w19.heap.size := b19.size
      have B19 : Below w.heap.size w w19 := B18.trans (b19.mono (by omega))
      have rw0 := rw0.below b19
      have rg0 := rg0.below b19
      have rh0 := rh0.below b19
      go_wp2_with fail
      refine (heldIntS_R (1) _ rg0.rd (by simp; try omega) hr0 (by omega)).mono ?_
      rintro e w_ ⟨rfl, rfl⟩
      go_wp2_with fail
      go_ret
      exact ⟨rfl, B19⟩
end Go.Proofs.Ytakmgghjpompoaa

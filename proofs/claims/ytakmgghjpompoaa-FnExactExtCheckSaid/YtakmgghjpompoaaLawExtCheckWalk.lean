/- The walk of the law FnExactExtCheck. -/
import Derived.Test.YtakmgghjpompoaaExtCheckR
import Derived.Test.YtakmgghjpompoaaChg
import Derived.Test.YtakmgghjpompoaaOpenS
namespace Go.Proofs.Ytakmgghjpompoaa
set_option linter.unusedSimpArgs false
set_option linter.unusedVariables false
open Go.RowKit
set_option maxRecDepth 100000 in
set_option maxHeartbeats 1000000 in
theorem walk_FnExactExtCheck (Aa : Option Addr) (na ca : Nat) (la : List Int) (Ab : Option Addr) (nb cb : Nat) (lb : List Int) (Ac : Option Addr) (nc cc : Nat) (lc : List Int) (Ad : Option Addr) (nd cd : Nat) (ld : List Int) (s : Int) (w : World) (hxa : Ints0 w Aa na la) (hxb : Ints0 w Ab nb lb) (hxc : Ints0 w Ac nc lc) (hxd : Ints0 w Ad nd ld) :
    Calls Try.prog 15 #[.slice Aa na ca, .slice Ab nb cb, .slice Ac nc cc, .slice Ad nd cd, .int .i64 s] w fun e w' => e = .returned (.bool true) ∧ Below w.heap.size w w' := by
  by_cases hna : (1048576 : Int) < na
  · go_enter Try.func15, Try.ntmps15
    go_wp2
    go_ret
    exact ⟨rfl, Below.refl _ _⟩
  · skip
    by_cases hnb : (1048576 : Int) < nb
    · go_enter Try.func15, Try.ntmps15
      go_wp2
      go_ret
      exact ⟨rfl, Below.refl _ _⟩
    · skip
      by_cases hnc : (1048576 : Int) < nc
      · go_enter Try.func15, Try.ntmps15
        go_wp2
        go_ret
        exact ⟨rfl, Below.refl _ _⟩
      · skip
        by_cases hnd : (1048576 : Int) < nd
        · go_enter Try.func15, Try.ntmps15
          go_wp2
          go_ret
          exact ⟨rfl, Below.refl _ _⟩
        · skip
          have hAa : Rd w (.slice Aa na ca) la := ⟨_, _, _, rfl, hxa.2⟩
          have hla : la.length ≤ 1048576 := by rw [hxa.2.len]; omega
          have hAb : Rd w (.slice Ab nb cb) lb := ⟨_, _, _, rfl, hxb.2⟩
          have hlb : lb.length ≤ 1048576 := by rw [hxb.2.len]; omega
          have hAc : Rd w (.slice Ac nc cc) lc := ⟨_, _, _, rfl, hxc.2⟩
          have hlc : lc.length ≤ 1048576 := by rw [hxc.2.len]; omega
          have hAd : Rd w (.slice Ad nd cd) ld := ⟨_, _, _, rfl, hxd.2⟩
          have hld : ld.length ≤ 1048576 := by rw [hxd.2.len]; omega
          go_enter Try.func15, Try.ntmps15
          go_wp2_with fail
          refine (toIntS_R hAa hla).mono ?_
          rintro e w1 ⟨vsa, rfl, rsa, b1⟩
          have z1 : w.heap.size ≤ w1.heap.size := b1.size
          have B1 : Below w.heap.size w w1 := (Below.refl _ _).trans (b1.mono (by omega))
          go_wp2_with fail
          refine (toIntS_R (hAb.below B1) hlb).mono ?_
          rintro e w2 ⟨vsb, rfl, rsb, b2⟩
          have z2 : w1.heap.size ≤ w2.heap.size := b2.size
          have B2 : Below w.heap.size w w2 := B1.trans (b2.mono (by omega))
          have rsa := rsa.below b2
          go_wp2_with fail
          refine (toIntS_R (hAc.below B2) hlc).mono ?_
          rintro e w3 ⟨vsc, rfl, rsc, b3⟩
          have z3 : w2.heap.size ≤ w3.heap.size := b3.size
          have B3 : Below w.heap.size w w3 := B2.trans (b3.mono (by omega))
          have rsa := rsa.below b3
          have rsb := rsb.below b3
          go_wp2_with fail
          refine (toIntS_R (hAd.below B3) hld).mono ?_
          rintro e w4 ⟨vsd, rfl, rsd, b4⟩
          have z4 : w3.heap.size ≤ w4.heap.size := b4.size
          have B4 : Below w.heap.size w w4 := B3.trans (b4.mono (by omega))
          have rsa := rsa.below b4
          have rsb := rsb.below b4
          have rsc := rsc.below b4
          go_wp2_with fail
          refine (sExtCheck_R s rsa.rd rsb.rd rsc.rd rsd.rd hla hlb hlc hld).mono ?_
          rintro e w5 ⟨rfl, b5⟩
          have z5 : w4.heap.size ≤ w5.heap.size := b5.size
          have B5 : Below w.heap.size w w5 := B4.trans (b5.mono (by omega))
          have rsa := rsa.below b5
          have rsb := rsb.below b5
          have rsc := rsc.below b5
          have rsd := rsd.below b5
          go_wp2_with fail
          refine (toIntS_R (hAa.below B5) hla).mono ?_
          rintro e w6 ⟨vxa, rfl, rxa, b6⟩
          have z6 : w5.heap.size ≤ w6.heap.size := b6.size
          have B6 : Below w.heap.size w w6 := B5.trans (b6.mono (by omega))
          go_wp2_with fail
          refine (toIntS_R (hAb.below B6) hlb).mono ?_
          rintro e w7 ⟨vxb, rfl, rxb, b7⟩
          have z7 : w6.heap.size ≤ w7.heap.size := b7.size
          have B7 : Below w.heap.size w w7 := B6.trans (b7.mono (by omega))
          have rxa := rxa.below b7
          go_wp2_with fail
          refine (toIntS_R (hAc.below B7) hlc).mono ?_
          rintro e w8 ⟨vxc, rfl, rxc, b8⟩
          have z8 : w7.heap.size ≤ w8.heap.size := b8.size
          have B8 : Below w.heap.size w w8 := B7.trans (b8.mono (by omega))
          have rxa := rxa.below b8
          have rxb := rxb.below b8
          go_wp2_with fail
          refine (toIntS_R (hAd.below B8) hld).mono ?_
          rintro e w9 ⟨vxd, rfl, rxd, b9⟩
          have z9 : w8.heap.size ≤ w9.heap.size := b9.size
          have B9 : Below w.heap.size w w9 := B8.trans (b9.mono (by omega))
          have rxa := rxa.below b9
          have rxb := rxb.below b9
          have rxc := rxc.below b9
          go_wp2_with fail
          refine (iExtCheck_R s rxa.rd rxb.rd rxc.rd rxd.rd hla hlb hlc hld).mono ?_
          rintro e w10 ⟨rfl, b10⟩
          have z10 : w9.heap.size ≤ w10.heap.size := b10.size
          have B10 : Below w.heap.size w w10 := B9.trans (b10.mono (by omega))
          have rxa := rxa.below b10
          have rxb := rxb.below b10
          have rxc := rxc.below b10
          have rxd := rxd.below b10
          go_wp2_with fail
          refine (toIntS_R (hAa.below B10) hla).mono ?_
          rintro e w11 ⟨vya, rfl, rya, b11⟩
          have z11 : w10.heap.size ≤ w11.heap.size := b11.size
          have B11 : Below w.heap.size w w11 := B10.trans (b11.mono (by omega))
          have rxa := rxa.below b11
          have rxb := rxb.below b11
          have rxc := rxc.below b11
          have rxd := rxd.below b11
          go_wp2_with fail
          refine (eqIntS_R rxa.rd rya.rd hla).mono ?_
          rintro e w12 ⟨rfl, b12⟩
          have z12 : w11.heap.size ≤ w12.heap.size := b12.size
          have B12 : Below w.heap.size w w12 := B11.trans (b12.mono (by omega))
          have rxa := rxa.below b12
          have rxb := rxb.below b12
          have rxc := rxc.below b12
          have rxd := rxd.below b12
          have rya := rya.below b12
          go_wp2_with fail
          refine (toIntS_R (hAb.below B12) hlb).mono ?_
          rintro e w13 ⟨vyb, rfl, ryb, b13⟩
          have z13 : w12.heap.size ≤ w13.heap.size := b13.size
          have B13 : Below w.heap.size w w13 := B12.trans (b13.mono (by omega))
          have rxa := rxa.below b13
          have rxb := rxb.below b13
          have rxc := rxc.below b13
          have rxd := rxd.below b13
          go_wp2_with fail
          refine (eqIntS_R rxb.rd ryb.rd hlb).mono ?_
          rintro e w14 ⟨rfl, b14⟩
          have z14 : w13.heap.size ≤ w14.heap.size := b14.size
          have B14 : Below w.heap.size w w14 := B13.trans (b14.mono (by omega))
          have rxa := rxa.below b14
          have rxb := rxb.below b14
          have rxc := rxc.below b14
          have rxd := rxd.below b14
          have ryb := ryb.below b14
          go_wp2_with fail
          refine (toIntS_R (hAc.below B14) hlc).mono ?_
          rintro e w15 ⟨vyc, rfl, ryc, b15⟩
          have z15 : w14.heap.size ≤ w15.heap.size := b15.size
          have B15 : Below w.heap.size w w15 := B14.trans (b15.mono (by omega))
          have rxa := rxa.below b15
          have rxb := rxb.below b15
          have rxc := rxc.below b15
          have rxd := rxd.below b15
          go_wp2_with fail
          refine (eqIntS_R rxc.rd ryc.rd hlc).mono ?_
          rintro e w16 ⟨rfl, b16⟩
          have z16 : w15.heap.size ≤ w16.heap.size := b16.size
          have B16 : Below w.heap.size w w16 := B15.trans (b16.mono (by omega))
          have rxa := rxa.below b16
          have rxb := rxb.below b16
          have rxc := rxc.below b16
          have rxd := rxd.below b16
          have ryc := ryc.below b16
          go_wp2_with fail
          refine (toIntS_R (hAd.below B16) hld).mono ?_
          rintro e w17 ⟨vyd, rfl, ryd, b17⟩
          have z17 : w16.heap.size ≤ w17.heap.size := b17.size
          have B17 : Below w.heap.size w w17 := B16.trans (b17.mono (by omega))
          have rxa := rxa.below b17
          have rxb := rxb.below b17
          have rxc := rxc.below b17
          have rxd := rxd.below b17
          go_wp2_with fail
          refine (eqIntS_R rxd.rd ryd.rd hld).mono ?_
          rintro e w18 ⟨rfl, b18⟩
          have z18 : w17.heap.size ≤ w18.heap.size := b18.size
          have B18 : Below w.heap.size w w18 := B17.trans (b18.mono (by omega))
          have rxa := rxa.below b18
          have rxb := rxb.below b18
          have rxc := rxc.below b18
          have rxd := rxd.below b18
          have ryd := ryd.below b18
          go_wp2_with fail
          go_ret
          exact ⟨rfl, B18⟩
end Go.Proofs.Ytakmgghjpompoaa

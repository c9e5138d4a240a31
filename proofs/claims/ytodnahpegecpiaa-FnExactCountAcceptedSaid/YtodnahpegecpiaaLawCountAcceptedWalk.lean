/- The walk of the law FnExactCountAccepted. Printed by laws2.py. -/
import Derived.Test.YtodnahpegecpiaaAcc
import Derived.Test.YtodnahpegecpiaaHl
import Derived.Test.YtodnahpegecpiaaAuto
namespace Go.Proofs.Ytodnahpegecpiaa
set_option linter.unusedSimpArgs false
set_option linter.unusedVariables false
open Go.RowKit
set_option maxRecDepth 100000 in
set_option maxHeartbeats 2000000 in
theorem walk_FnExactCountAccepted (hL0V : Value) (hL0 : List Int) (w : World) (hL0h : Rd0 w hL0V hL0) :
    Calls Try.prog 5 #[hL0V] w fun e w' => e = .returned (.bool true) ∧ Below w.heap.size w w' := by
  obtain ⟨hA0, hn0, hc0, rfl, hL0x, hL0I⟩ := hL0h
  have hL0h : Rd0 w (.slice hA0 hn0 hc0) hL0 := ⟨_, _, _, rfl, hL0x, hL0I⟩
  by_cases hL0b : (1048576 : Int) < hn0
  · go_enter Try.func5, Try.ntmps5
    go_wp2
    go_ret
    refine ⟨rfl, ?_⟩
    repeat (first | exact Below.refl _ _ | refine Below.alloc ?_ (by first | omega | (simp; done) | (simp; omega)) _ | refine Below.setCell ?_ (by first | omega | (simp; done) | (simp; omega)) _ | refine Below.drew ?_ | refine below_drewN ?_ _ | refine Below.trans ?_ (hb30.mono (by first | omega | (simp; done) | (simp; omega))) | refine Below.trans ?_ (hb29.mono (by first | omega | (simp; done) | (simp; omega))) | refine Below.trans ?_ (hb28.mono (by first | omega | (simp; done) | (simp; omega))) | refine Below.trans ?_ (hb27.mono (by first | omega | (simp; done) | (simp; omega))) | refine Below.trans ?_ (hb26.mono (by first | omega | (simp; done) | (simp; omega))) | refine Below.trans ?_ (hb25.mono (by first | omega | (simp; done) | (simp; omega))) | refine Below.trans ?_ (hb24.mono (by first | omega | (simp; done) | (simp; omega))) | refine Below.trans ?_ (hb23.mono (by first | omega | (simp; done) | (simp; omega))) | refine Below.trans ?_ (hb22.mono (by first | omega | (simp; done) | (simp; omega))) | refine Below.trans ?_ (hb21.mono (by first | omega | (simp; done) | (simp; omega))) | refine Below.trans ?_ (hb20.mono (by first | omega | (simp; done) | (simp; omega))) | refine Below.trans ?_ (hb19.mono (by first | omega | (simp; done) | (simp; omega))) | refine Below.trans ?_ (hb18.mono (by first | omega | (simp; done) | (simp; omega))) | refine Below.trans ?_ (hb17.mono (by first | omega | (simp; done) | (simp; omega))) | refine Below.trans ?_ (hb16.mono (by first | omega | (simp; done) | (simp; omega))) | refine Below.trans ?_ (hb15.mono (by first | omega | (simp; done) | (simp; omega))) | refine Below.trans ?_ (hb14.mono (by first | omega | (simp; done) | (simp; omega))) | refine Below.trans ?_ (hb13.mono (by first | omega | (simp; done) | (simp; omega))) | refine Below.trans ?_ (hb12.mono (by first | omega | (simp; done) | (simp; omega))) | refine Below.trans ?_ (hb11.mono (by first | omega | (simp; done) | (simp; omega))) | refine Below.trans ?_ (hb10.mono (by first | omega | (simp; done) | (simp; omega))) | refine Below.trans ?_ (hb9.mono (by first | omega | (simp; done) | (simp; omega))) | refine Below.trans ?_ (hb8.mono (by first | omega | (simp; done) | (simp; omega))) | refine Below.trans ?_ (hb7.mono (by first | omega | (simp; done) | (simp; omega))) | refine Below.trans ?_ (hb6.mono (by first | omega | (simp; done) | (simp; omega))) | refine Below.trans ?_ (hb5.mono (by first | omega | (simp; done) | (simp; omega))) | refine Below.trans ?_ (hb4.mono (by first | omega | (simp; done) | (simp; omega))) | refine Below.trans ?_ (hb3.mono (by first | omega | (simp; done) | (simp; omega))) | refine Below.trans ?_ (hb2.mono (by first | omega | (simp; done) | (simp; omega))) | refine Below.trans ?_ (hb1.mono (by first | omega | (simp; done) | (simp; omega))))
  · skip
    have hL0n : hL0.length ≤ 1048576 := by rw [hL0I.len]; omega
    go_enter Try.func5, Try.ntmps5
    go_wp2_with fail
    refine (toIntS_L (RdL.cons (d := .ints hL0) hL0h.rd.b RdL.nil) hL0n).mono ?_
    rintro e w1 ⟨shA0, shn0, shc0, rfl, rsh, b1⟩
    have z1 := b1.size
    try simp only [World.size_alloc, World.size_setCell, size_drew] at z1
    have B1 : Below w.heap.size w w1 := Below.t b1
    try simp only [World.size_alloc, World.size_setCell, size_drew] at rsh
    go_wp2_with fail
    refine (sCountAccepted_L rsh.rd hL0n).mono ?_
    rintro e w2 ⟨rfl, b2⟩
    have z2 := b2.size
    try simp only [World.size_alloc, World.size_setCell, size_drew] at z2
    have B2 : Below w.heap.size w w2 := Below.t b2
    have rsh_ := rsh.below b2
    clear rsh; have rsh := rsh_; clear rsh_
    go_wp2_with fail
    refine (toIntS_L (RdL.cons (d := .ints hL0) hL0h.rd.b RdL.nil) hL0n).mono ?_
    rintro e w3 ⟨xhA0, xhn0, xhc0, rfl, rxh, b3⟩
    have z3 := b3.size
    try simp only [World.size_alloc, World.size_setCell, size_drew] at z3
    have B3 : Below w.heap.size w w3 := Below.t b3
    try simp only [World.size_alloc, World.size_setCell, size_drew] at rxh
    go_wp2_with fail
    refine (iCountAccepted_L rxh.rd hL0n).mono ?_
    rintro e w4 ⟨rfl, b4⟩
    have z4 := b4.size
    try simp only [World.size_alloc, World.size_setCell, size_drew] at z4
    have B4 : Below w.heap.size w w4 := Below.t b4
    have rxh_ := rxh.below b4
    clear rxh; have rxh := rxh_; clear rxh_
    go_wp2_with fail
    refine (toIntS_L (RdL.cons (d := .ints hL0) hL0h.rd.b RdL.nil) hL0n).mono ?_
    rintro e w5 ⟨zhA0, zhn0, zhc0, rfl, rzh, b5⟩
    have z5 := b5.size
    try simp only [World.size_alloc, World.size_setCell, size_drew] at z5
    have B5 : Below w.heap.size w w5 := Below.t b5
    have rxh_ := rxh.below b5
    clear rxh; have rxh := rxh_; clear rxh_
    try simp only [World.size_alloc, World.size_setCell, size_drew] at rzh
    go_wp2_with fail
    refine (eqIntS_L rxh.rd rzh.rd hL0n).mono ?_
    rintro e w6 ⟨rfl, b6⟩
    have z6 := b6.size
    try simp only [World.size_alloc, World.size_setCell, size_drew] at z6
    have B6 : Below w.heap.size w w6 := Below.t b6
    have rxh_ := rxh.below b6
    clear rxh; have rxh := rxh_; clear rxh_
    have rzh_ := rzh.below b6
    clear rzh; have rzh := rzh_; clear rzh_
    go_wp2_with fail
    go_ret
    exact ⟨rfl, B6⟩
end Go.Proofs.Ytodnahpegecpiaa

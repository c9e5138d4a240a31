/- Contracts of the authenticated values' functions, the program's and the reference's. Printed by mac.py. -/
import Derived.Test.YtllnnbmgdbinnaaShares
import Derived.Test.YtllnnbmgdbinnaaHl
namespace Go.Proofs.Ytllnnbmgdbinnaa
set_option linter.unusedSimpArgs false
set_option linter.unusedVariables false
open Go.RowKit
theorem Rd.toInts {w : World} {A : Option Addr} {n c : Nat} {l : List Int} (h : RdD w (.slice A n c) (.ints l)) : Ints w A n l := by
  obtain ⟨_, _, _, e, hI⟩ := h; cases e; exact hI
set_option maxRecDepth 100000 in
set_option maxHeartbeats 2000000 in
theorem sKeysOk_L {kA1 : Option Addr} {kn1 kc1 : Nat} {kL1 : List Int} {w : World} (kI0 : Int) (kH : RdL w [((.slice kA1 kn1 kc1), .ints kL1)]) (kL1n : kL1.length ≤ 1048576) :
    Calls Try.prog 34 #[.agg #[.int .i64 kI0, (.slice kA1 kn1 kc1)]] w fun e w' => e = .returned (.bool (keysOk kI0 kL1)) ∧ Below w.heap.size w w' := by
  have kL1i : Ints w kA1 kn1 kL1 := Rd.toInts (kH ((.slice kA1 kn1 kc1), .ints kL1) (by simp))
  have kL1l := Lib.hid kL1i.len
  have kL1m : kn1 ≤ 1048576 := by rw [← kL1l.out]; exact kL1n
  have HE := Lib.hid (show keysOk kI0 kL1 = (inB (kn1 : Int) 1 5 && allEl kI0 kL1) by rw [keysOk, kL1l.out])
  cases k1 : inB (kn1 : Int) 1 5 with
  | false =>
    go_enter Try.func34, Try.ntmps34
    go_wp2_with (first | (go_at_call 93; refine (l01In_any _ _ _ _).mono ?_; rintro e w' ⟨rfl, rfl⟩))
    go_ret
    exact ⟨ret_bool (by rw [HE.out, k1]; rfl), by repeat (with_reducible (first | assumption | exact Below.refl _ _ | refine Below.alloc ?_ (by first | omega | (simp; done) | (simp; omega)) _ | refine Below.setCell ?_ (by first | omega | (simp; done) | (simp; omega)) _ | refine Below.drew ?_ | refine below_drewN ?_ _))⟩
  | true =>
    go_enter Try.func34, Try.ntmps34
    go_wp2_with (first | (go_at_call 93; refine (l01In_any _ _ _ _).mono ?_; rintro e w' ⟨rfl, rfl⟩))
    refine (l03All_any _ _ _ _ _ _ (kL1i.below (by repeat (with_reducible (first | assumption | exact Below.refl _ _ | refine Below.alloc ?_ (by first | omega | (simp; done) | (simp; omega)) _ | refine Below.setCell ?_ (by first | omega | (simp; done) | (simp; omega)) _ | refine Below.drew ?_ | refine below_drewN ?_ _)))) (by omega)).mono ?_
    rintro e w_ ⟨rfl, rfl⟩
    go_wp2
    go_ret
    exact ⟨ret_bool (by rw [HE.out, k1]; rfl), by repeat (with_reducible (first | assumption | exact Below.refl _ _ | refine Below.alloc ?_ (by first | omega | (simp; done) | (simp; omega)) _ | refine Below.setCell ?_ (by first | omega | (simp; done) | (simp; omega)) _ | refine Below.drew ?_ | refine below_drewN ?_ _))⟩
set_option maxRecDepth 100000 in
set_option maxHeartbeats 2000000 in
theorem iKeysOk_L {kA1 : Option Addr} {kn1 kc1 : Nat} {kL1 : List Int} {w : World} (kI0 : Int) (kH : RdL w [((.slice kA1 kn1 kc1), .ints kL1)]) (kL1n : kL1.length ≤ 1048576) :
    Calls Try.prog 36 #[.agg #[.int .i64 kI0, (.slice kA1 kn1 kc1)]] w fun e w' => e = .returned (.bool (keysOk kI0 kL1)) ∧ Below w.heap.size w w' := by
  have kL1i : Ints w kA1 kn1 kL1 := Rd.toInts (kH ((.slice kA1 kn1 kc1), .ints kL1) (by simp))
  have kL1l := Lib.hid kL1i.len
  have kL1m : kn1 ≤ 1048576 := by rw [← kL1l.out]; exact kL1n
  have HE := Lib.hid (show keysOk kI0 kL1 = (inB (kn1 : Int) 1 5 && allEl kI0 kL1) by rw [keysOk, kL1l.out])
  cases k1 : allEl kI0 kL1 with
  | false =>
    go_enter Try.func36, Try.ntmps36
    go_wp2_with fail
    refine (areElements_any _ _ _ _ _ _ (kL1i.below (by repeat (with_reducible (first | assumption | exact Below.refl _ _ | refine Below.alloc ?_ (by first | omega | (simp; done) | (simp; omega)) _ | refine Below.setCell ?_ (by first | omega | (simp; done) | (simp; omega)) _ | refine Below.drew ?_ | refine below_drewN ?_ _)))) (by omega)).mono ?_
    rintro e w_ ⟨rfl, rfl⟩
    go_wp2
    go_ret
    exact ⟨ret_bool (by rw [HE.out, k1]; simp), by repeat (with_reducible (first | assumption | exact Below.refl _ _ | refine Below.alloc ?_ (by first | omega | (simp; done) | (simp; omega)) _ | refine Below.setCell ?_ (by first | omega | (simp; done) | (simp; omega)) _ | refine Below.drew ?_ | refine below_drewN ?_ _))⟩
  | true =>
    go_enter Try.func36, Try.ntmps36
    go_wp2_with fail
    refine (areElements_any _ _ _ _ _ _ (kL1i.below (by repeat (with_reducible (first | assumption | exact Below.refl _ _ | refine Below.alloc ?_ (by first | omega | (simp; done) | (simp; omega)) _ | refine Below.setCell ?_ (by first | omega | (simp; done) | (simp; omega)) _ | refine Below.drew ?_ | refine below_drewN ?_ _)))) (by omega)).mono ?_
    rintro e w_ ⟨rfl, rfl⟩
    go_wp2_with (first | (go_at_call 96; refine (within_any _ _ _ _).mono ?_; rintro e w' ⟨rfl, rfl⟩))
    go_ret
    exact ⟨ret_bool (by rw [HE.out, k1]; simp), by repeat (with_reducible (first | assumption | exact Below.refl _ _ | refine Below.alloc ?_ (by first | omega | (simp; done) | (simp; omega)) _ | refine Below.setCell ?_ (by first | omega | (simp; done) | (simp; omega)) _ | refine Below.drew ?_ | refine below_drewN ?_ _))⟩
set_option maxRecDepth 100000 in
set_option maxHeartbeats 2000000 in
theorem sl23Key_L {kA1 : Option Addr} {kn1 kc1 : Nat} {kL1 : List Int} {w : World} (kI0 : Int) (kH : RdL w [((.slice kA1 kn1 kc1), .ints kL1)]) (kL1n : kL1.length ≤ 1048576) :
    Calls Try.prog 106 #[.agg #[.int .i64 kI0, (.slice kA1 kn1 kc1)]] w fun e w' => e = .returned (.int .i64 (fsum kI0 kL1)) ∧ Below w.heap.size w w' := by
  have kL1i : Ints w kA1 kn1 kL1 := Rd.toInts (kH ((.slice kA1 kn1 kc1), .ints kL1) (by simp))
  have kL1l := Lib.hid kL1i.len
  have kL1m : kn1 ≤ 1048576 := by rw [← kL1l.out]; exact kL1n
  go_enter Try.func106, Try.ntmps106
  go_wp2_with fail
  refine (sFSum_any _ _ _ _ _ _ (kL1i.below (by repeat (with_reducible (first | assumption | exact Below.refl _ _ | refine Below.alloc ?_ (by first | omega | (simp; done) | (simp; omega)) _ | refine Below.setCell ?_ (by first | omega | (simp; done) | (simp; omega)) _ | refine Below.drew ?_ | refine below_drewN ?_ _)))) (by omega)).mono ?_
  rintro e w_ ⟨rfl, rfl⟩
  go_wp2
  go_ret
  exact ⟨rfl, by repeat (with_reducible (first | assumption | exact Below.refl _ _ | refine Below.alloc ?_ (by first | omega | (simp; done) | (simp; omega)) _ | refine Below.setCell ?_ (by first | omega | (simp; done) | (simp; omega)) _ | refine Below.drew ?_ | refine below_drewN ?_ _))⟩
set_option maxRecDepth 100000 in
set_option maxHeartbeats 2000000 in
theorem ivalueIn_L {kA1 : Option Addr} {kn1 kc1 : Nat} {kL1 : List Int} {aA0 : Option Addr} {an0 ac0 : Nat} {aL0 : List Int} {aA1 : Option Addr} {an1 ac1 : Nat} {aL1 : List Int} {w : World} (kI0 : Int) (kH : RdL w [((.slice kA1 kn1 kc1), .ints kL1)]) (kL1n : kL1.length ≤ 1048576) (aH : RdL w [((.slice aA0 an0 ac0), .ints aL0), ((.slice aA1 an1 ac1), .ints aL1)]) (aL0n : aL0.length ≤ 1048576) (aL1n : aL1.length ≤ 1048576) :
    Calls Try.prog 109 #[.agg #[.int .i64 kI0, (.slice kA1 kn1 kc1)], .agg #[(.slice aA0 an0 ac0), (.slice aA1 an1 ac1)]] w fun e w' => e = .returned (.int .i64 (fsum kI0 aL0)) ∧ Below w.heap.size w w' := by
  have kL1i : Ints w kA1 kn1 kL1 := Rd.toInts (kH ((.slice kA1 kn1 kc1), .ints kL1) (by simp))
  have kL1l := Lib.hid kL1i.len
  have kL1m : kn1 ≤ 1048576 := by rw [← kL1l.out]; exact kL1n
  have aL0i : Ints w aA0 an0 aL0 := Rd.toInts (aH ((.slice aA0 an0 ac0), .ints aL0) (by simp))
  have aL0l := Lib.hid aL0i.len
  have aL0m : an0 ≤ 1048576 := by rw [← aL0l.out]; exact aL0n
  have aL1i : Ints w aA1 an1 aL1 := Rd.toInts (aH ((.slice aA1 an1 ac1), .ints aL1) (by simp))
  have aL1l := Lib.hid aL1i.len
  have aL1m : an1 ≤ 1048576 := by rw [← aL1l.out]; exact aL1n
  go_enter Try.func109, Try.ntmps109
  go_wp2_with fail
  refine (iFSum_any _ _ _ _ _ _ (aL0i.below (by repeat (with_reducible (first | assumption | exact Below.refl _ _ | refine Below.alloc ?_ (by first | omega | (simp; done) | (simp; omega)) _ | refine Below.setCell ?_ (by first | omega | (simp; done) | (simp; omega)) _ | refine Below.drew ?_ | refine below_drewN ?_ _)))) (by omega)).mono ?_
  rintro e w_ ⟨rfl, rfl⟩
  go_wp2
  go_ret
  exact ⟨rfl, by repeat (with_reducible (first | assumption | exact Below.refl _ _ | refine Below.alloc ?_ (by first | omega | (simp; done) | (simp; omega)) _ | refine Below.setCell ?_ (by first | omega | (simp; done) | (simp; omega)) _ | refine Below.drew ?_ | refine below_drewN ?_ _))⟩
set_option maxRecDepth 100000 in
set_option maxHeartbeats 2000000 in
theorem sl24Value_L {kA1 : Option Addr} {kn1 kc1 : Nat} {kL1 : List Int} {aA0 : Option Addr} {an0 ac0 : Nat} {aL0 : List Int} {aA1 : Option Addr} {an1 ac1 : Nat} {aL1 : List Int} {w : World} (kI0 : Int) (kH : RdL w [((.slice kA1 kn1 kc1), .ints kL1)]) (kL1n : kL1.length ≤ 1048576) (aH : RdL w [((.slice aA0 an0 ac0), .ints aL0), ((.slice aA1 an1 ac1), .ints aL1)]) (aL0n : aL0.length ≤ 1048576) (aL1n : aL1.length ≤ 1048576) :
    Calls Try.prog 121 #[.agg #[.int .i64 kI0, (.slice kA1 kn1 kc1)], .agg #[(.slice aA0 an0 ac0), (.slice aA1 an1 ac1)]] w fun e w' => e = .returned (.int .i64 (fsum kI0 aL0)) ∧ Below w.heap.size w w' := by
  have kL1i : Ints w kA1 kn1 kL1 := Rd.toInts (kH ((.slice kA1 kn1 kc1), .ints kL1) (by simp))
  have kL1l := Lib.hid kL1i.len
  have kL1m : kn1 ≤ 1048576 := by rw [← kL1l.out]; exact kL1n
  have aL0i : Ints w aA0 an0 aL0 := Rd.toInts (aH ((.slice aA0 an0 ac0), .ints aL0) (by simp))
  have aL0l := Lib.hid aL0i.len
  have aL0m : an0 ≤ 1048576 := by rw [← aL0l.out]; exact aL0n
  have aL1i : Ints w aA1 an1 aL1 := Rd.toInts (aH ((.slice aA1 an1 ac1), .ints aL1) (by simp))
  have aL1l := Lib.hid aL1i.len
  have aL1m : an1 ≤ 1048576 := by rw [← aL1l.out]; exact aL1n
  go_enter Try.func121, Try.ntmps121
  go_wp2_with fail
  refine (sFSum_any _ _ _ _ _ _ (aL0i.below (by repeat (with_reducible (first | assumption | exact Below.refl _ _ | refine Below.alloc ?_ (by first | omega | (simp; done) | (simp; omega)) _ | refine Below.setCell ?_ (by first | omega | (simp; done) | (simp; omega)) _ | refine Below.drew ?_ | refine below_drewN ?_ _)))) (by omega)).mono ?_
  rintro e w_ ⟨rfl, rfl⟩
  go_wp2
  go_ret
  exact ⟨rfl, by repeat (with_reducible (first | assumption | exact Below.refl _ _ | refine Below.alloc ?_ (by first | omega | (simp; done) | (simp; omega)) _ | refine Below.setCell ?_ (by first | omega | (simp; done) | (simp; omega)) _ | refine Below.drew ?_ | refine below_drewN ?_ _))⟩
set_option maxRecDepth 100000 in
set_option maxHeartbeats 2000000 in
theorem sl23Form_L {kA1 : Option Addr} {kn1 kc1 : Nat} {kL1 : List Int} {aA0 : Option Addr} {an0 ac0 : Nat} {aL0 : List Int} {aA1 : Option Addr} {an1 ac1 : Nat} {aL1 : List Int} {w : World} (kI0 : Int) (kH : RdL w [((.slice kA1 kn1 kc1), .ints kL1)]) (kL1n : kL1.length ≤ 1048576) (aH : RdL w [((.slice aA0 an0 ac0), .ints aL0), ((.slice aA1 an1 ac1), .ints aL1)]) (aL0n : aL0.length ≤ 1048576) (aL1n : aL1.length ≤ 1048576) :
    Calls Try.prog 107 #[.agg #[.int .i64 kI0, (.slice kA1 kn1 kc1)], .agg #[(.slice aA0 an0 ac0), (.slice aA1 an1 ac1)]] w fun e w' => e = .returned (.bool (formOk kI0 kL1 aL0 aL1)) ∧ Below w.heap.size w w' := by
  have kL1i : Ints w kA1 kn1 kL1 := Rd.toInts (kH ((.slice kA1 kn1 kc1), .ints kL1) (by simp))
  have kL1l := Lib.hid kL1i.len
  have kL1m : kn1 ≤ 1048576 := by rw [← kL1l.out]; exact kL1n
  have aL0i : Ints w aA0 an0 aL0 := Rd.toInts (aH ((.slice aA0 an0 ac0), .ints aL0) (by simp))
  have aL0l := Lib.hid aL0i.len
  have aL0m : an0 ≤ 1048576 := by rw [← aL0l.out]; exact aL0n
  have aL1i : Ints w aA1 an1 aL1 := Rd.toInts (aH ((.slice aA1 an1 ac1), .ints aL1) (by simp))
  have aL1l := Lib.hid aL1i.len
  have aL1m : an1 ≤ 1048576 := by rw [← aL1l.out]; exact aL1n
  have HE := Lib.hid (show formOk kI0 kL1 aL0 aL1 = (keysOk kI0 kL1 && decide (an0 = kn1) && decide (an1 = kn1) && allEl kI0 aL0 && allEl kI0 aL1) by rw [formOk, kL1l.out, aL0l.out, aL1l.out])
  cases k1 : keysOk kI0 kL1 with
  | false =>
    go_enter Try.func107, Try.ntmps107
    go_wp2_with fail
    refine (sKeysOk_L kI0 (RdL.below (ls := [((.slice kA1 kn1 kc1), .ints kL1)]) kH (by repeat (with_reducible (first | assumption | exact Below.refl _ _ | refine Below.alloc ?_ (by first | omega | (simp; done) | (simp; omega)) _ | refine Below.setCell ?_ (by first | omega | (simp; done) | (simp; omega)) _ | refine Below.drew ?_ | refine below_drewN ?_ _)))) kL1n).mono ?_
    rintro e w1 ⟨rfl, b1⟩
    have z1 := b1.size
    try simp only [World.size_alloc, World.size_setCell, size_drew] at z1
    have B1 : Below w.heap.size w w1 := Below.trans (b := _) (by repeat (with_reducible (first | assumption | exact Below.refl _ _ | refine Below.alloc ?_ (by first | omega | (simp; done) | (simp; omega)) _ | refine Below.setCell ?_ (by first | omega | (simp; done) | (simp; omega)) _ | refine Below.drew ?_ | refine below_drewN ?_ _))) (b1.mono (by first | omega | (simp [size_drew]; done) | (simp [size_drew]; omega)))
    have xk_ : Box w1 (w.heap.size) #[.int .i64 kI0, (.slice kA1 kn1 kc1)] 33 := ((Box.new (g := w.heap.size) _ #[.int .i64 kI0, (.slice kA1 kn1 kc1)] 33 (by simp)).alloc _).below b1 (by first | omega | (simp [size_drew]; done) | (simp [size_drew]; omega))
    have xk := xk_; clear xk_
    have xa_ : Box w1 (w.heap.size + 1) #[(.slice aA0 an0 ac0), (.slice aA1 an1 ac1)] 38 := (Box.new (g := w.heap.size + 1) _ #[(.slice aA0 an0 ac0), (.slice aA1 an1 ac1)] 38 (by simp)).below b1 (by first | omega | (simp [size_drew]; done) | (simp [size_drew]; omega))
    have xa := xa_; clear xa_
    obtain ⟨cxk_0, cxk_1, fxk_0, fxk_1⟩ := xk.two
    have l_xk_0 : w.heap.size < w1.heap.size := by omega
    obtain ⟨cxa_0, cxa_1, fxa_0, fxa_1⟩ := xa.two
    have l_xa_0 : w.heap.size + 1 < w1.heap.size := by omega
    go_wp2
    go_ret
    exact ⟨ret_bool (by rw [HE.out]; simp_all), by repeat (with_reducible (first | assumption | exact Below.refl _ _ | refine Below.alloc ?_ (by first | omega | (simp; done) | (simp; omega)) _ | refine Below.setCell ?_ (by first | omega | (simp; done) | (simp; omega)) _ | refine Below.drew ?_ | refine below_drewN ?_ _))⟩
  | true =>
    by_cases q1 : an0 = kn1
    rotate_left
    · have q1' : ((an0 : Int) == (kn1 : Int)) = false := by simp; omega
      have q1d : decide (an0 = kn1) = false := by simpa using q1
      clear q1
      go_enter Try.func107, Try.ntmps107
      go_wp2_with fail
      refine (sKeysOk_L kI0 (RdL.below (ls := [((.slice kA1 kn1 kc1), .ints kL1)]) kH (by repeat (with_reducible (first | assumption | exact Below.refl _ _ | refine Below.alloc ?_ (by first | omega | (simp; done) | (simp; omega)) _ | refine Below.setCell ?_ (by first | omega | (simp; done) | (simp; omega)) _ | refine Below.drew ?_ | refine below_drewN ?_ _)))) kL1n).mono ?_
      rintro e w1 ⟨rfl, b1⟩
      have z1 := b1.size
      try simp only [World.size_alloc, World.size_setCell, size_drew] at z1
      have B1 : Below w.heap.size w w1 := Below.trans (b := _) (by repeat (with_reducible (first | assumption | exact Below.refl _ _ | refine Below.alloc ?_ (by first | omega | (simp; done) | (simp; omega)) _ | refine Below.setCell ?_ (by first | omega | (simp; done) | (simp; omega)) _ | refine Below.drew ?_ | refine below_drewN ?_ _))) (b1.mono (by first | omega | (simp [size_drew]; done) | (simp [size_drew]; omega)))
      have xk_ : Box w1 (w.heap.size) #[.int .i64 kI0, (.slice kA1 kn1 kc1)] 33 := ((Box.new (g := w.heap.size) _ #[.int .i64 kI0, (.slice kA1 kn1 kc1)] 33 (by simp)).alloc _).below b1 (by first | omega | (simp [size_drew]; done) | (simp [size_drew]; omega))
      have xk := xk_; clear xk_
      have xa_ : Box w1 (w.heap.size + 1) #[(.slice aA0 an0 ac0), (.slice aA1 an1 ac1)] 38 := (Box.new (g := w.heap.size + 1) _ #[(.slice aA0 an0 ac0), (.slice aA1 an1 ac1)] 38 (by simp)).below b1 (by first | omega | (simp [size_drew]; done) | (simp [size_drew]; omega))
      have xa := xa_; clear xa_
      obtain ⟨cxk_0, cxk_1, fxk_0, fxk_1⟩ := xk.two
      have l_xk_0 : w.heap.size < w1.heap.size := by omega
      obtain ⟨cxa_0, cxa_1, fxa_0, fxa_1⟩ := xa.two
      have l_xa_0 : w.heap.size + 1 < w1.heap.size := by omega
      go_wp2
      go_ret
      exact ⟨ret_bool (by rw [HE.out]; simp_all), by repeat (with_reducible (first | assumption | exact Below.refl _ _ | refine Below.alloc ?_ (by first | omega | (simp; done) | (simp; omega)) _ | refine Below.setCell ?_ (by first | omega | (simp; done) | (simp; omega)) _ | refine Below.drew ?_ | refine below_drewN ?_ _))⟩
    have q1' : ((an0 : Int) == (kn1 : Int)) = true := by simp; omega
    have q1d : decide (an0 = kn1) = true := by simpa using q1
    clear q1
    by_cases q2 : an1 = kn1
    rotate_left
    · have q2' : ((an1 : Int) == (kn1 : Int)) = false := by simp; omega
      have q2d : decide (an1 = kn1) = false := by simpa using q2
      clear q2
      go_enter Try.func107, Try.ntmps107
      go_wp2_with fail
      refine (sKeysOk_L kI0 (RdL.below (ls := [((.slice kA1 kn1 kc1), .ints kL1)]) kH (by repeat (with_reducible (first | assumption | exact Below.refl _ _ | refine Below.alloc ?_ (by first | omega | (simp; done) | (simp; omega)) _ | refine Below.setCell ?_ (by first | omega | (simp; done) | (simp; omega)) _ | refine Below.drew ?_ | refine below_drewN ?_ _)))) kL1n).mono ?_
      rintro e w1 ⟨rfl, b1⟩
      have z1 := b1.size
      try simp only [World.size_alloc, World.size_setCell, size_drew] at z1
      have B1 : Below w.heap.size w w1 := Below.trans (b := _) (by repeat (with_reducible (first | assumption | exact Below.refl _ _ | refine Below.alloc ?_ (by first | omega | (simp; done) | (simp; omega)) _ | refine Below.setCell ?_ (by first | omega | (simp; done) | (simp; omega)) _ | refine Below.drew ?_ | refine below_drewN ?_ _))) (b1.mono (by first | omega | (simp [size_drew]; done) | (simp [size_drew]; omega)))
      have xk_ : Box w1 (w.heap.size) #[.int .i64 kI0, (.slice kA1 kn1 kc1)] 33 := ((Box.new (g := w.heap.size) _ #[.int .i64 kI0, (.slice kA1 kn1 kc1)] 33 (by simp)).alloc _).below b1 (by first | omega | (simp [size_drew]; done) | (simp [size_drew]; omega))
      have xk := xk_; clear xk_
      have xa_ : Box w1 (w.heap.size + 1) #[(.slice aA0 an0 ac0), (.slice aA1 an1 ac1)] 38 := (Box.new (g := w.heap.size + 1) _ #[(.slice aA0 an0 ac0), (.slice aA1 an1 ac1)] 38 (by simp)).below b1 (by first | omega | (simp [size_drew]; done) | (simp [size_drew]; omega))
      have xa := xa_; clear xa_
      obtain ⟨cxk_0, cxk_1, fxk_0, fxk_1⟩ := xk.two
      have l_xk_0 : w.heap.size < w1.heap.size := by omega
      obtain ⟨cxa_0, cxa_1, fxa_0, fxa_1⟩ := xa.two
      have l_xa_0 : w.heap.size + 1 < w1.heap.size := by omega
      go_wp2
      go_ret
      exact ⟨ret_bool (by rw [HE.out]; simp_all), by repeat (with_reducible (first | assumption | exact Below.refl _ _ | refine Below.alloc ?_ (by first | omega | (simp; done) | (simp; omega)) _ | refine Below.setCell ?_ (by first | omega | (simp; done) | (simp; omega)) _ | refine Below.drew ?_ | refine below_drewN ?_ _))⟩
    have q2' : ((an1 : Int) == (kn1 : Int)) = true := by simp; omega
    have q2d : decide (an1 = kn1) = true := by simpa using q2
    clear q2
    cases k3 : allEl kI0 aL0 with
    | false =>
      go_enter Try.func107, Try.ntmps107
      go_wp2_with fail
      refine (sKeysOk_L kI0 (RdL.below (ls := [((.slice kA1 kn1 kc1), .ints kL1)]) kH (by repeat (with_reducible (first | assumption | exact Below.refl _ _ | refine Below.alloc ?_ (by first | omega | (simp; done) | (simp; omega)) _ | refine Below.setCell ?_ (by first | omega | (simp; done) | (simp; omega)) _ | refine Below.drew ?_ | refine below_drewN ?_ _)))) kL1n).mono ?_
      rintro e w1 ⟨rfl, b1⟩
      have z1 := b1.size
      try simp only [World.size_alloc, World.size_setCell, size_drew] at z1
      have B1 : Below w.heap.size w w1 := Below.trans (b := _) (by repeat (with_reducible (first | assumption | exact Below.refl _ _ | refine Below.alloc ?_ (by first | omega | (simp; done) | (simp; omega)) _ | refine Below.setCell ?_ (by first | omega | (simp; done) | (simp; omega)) _ | refine Below.drew ?_ | refine below_drewN ?_ _))) (b1.mono (by first | omega | (simp [size_drew]; done) | (simp [size_drew]; omega)))
      have xk_ : Box w1 (w.heap.size) #[.int .i64 kI0, (.slice kA1 kn1 kc1)] 33 := ((Box.new (g := w.heap.size) _ #[.int .i64 kI0, (.slice kA1 kn1 kc1)] 33 (by simp)).alloc _).below b1 (by first | omega | (simp [size_drew]; done) | (simp [size_drew]; omega))
      have xk := xk_; clear xk_
      have xa_ : Box w1 (w.heap.size + 1) #[(.slice aA0 an0 ac0), (.slice aA1 an1 ac1)] 38 := (Box.new (g := w.heap.size + 1) _ #[(.slice aA0 an0 ac0), (.slice aA1 an1 ac1)] 38 (by simp)).below b1 (by first | omega | (simp [size_drew]; done) | (simp [size_drew]; omega))
      have xa := xa_; clear xa_
      obtain ⟨cxk_0, cxk_1, fxk_0, fxk_1⟩ := xk.two
      have l_xk_0 : w.heap.size < w1.heap.size := by omega
      obtain ⟨cxa_0, cxa_1, fxa_0, fxa_1⟩ := xa.two
      have l_xa_0 : w.heap.size + 1 < w1.heap.size := by omega
      go_wp2_with fail
      refine (l03All_any _ _ _ _ _ _ (aL0i.below (by repeat (with_reducible (first | assumption | exact Below.refl _ _ | refine Below.alloc ?_ (by first | omega | (simp; done) | (simp; omega)) _ | refine Below.setCell ?_ (by first | omega | (simp; done) | (simp; omega)) _ | refine Below.drew ?_ | refine below_drewN ?_ _)))) (by omega)).mono ?_
      rintro e w_ ⟨rfl, rfl⟩
      go_wp2
      go_ret
      exact ⟨ret_bool (by rw [HE.out]; simp_all), by repeat (with_reducible (first | assumption | exact Below.refl _ _ | refine Below.alloc ?_ (by first | omega | (simp; done) | (simp; omega)) _ | refine Below.setCell ?_ (by first | omega | (simp; done) | (simp; omega)) _ | refine Below.drew ?_ | refine below_drewN ?_ _))⟩
    | true =>
      go_enter Try.func107, Try.ntmps107
      go_wp2_with fail
      refine (sKeysOk_L kI0 (RdL.below (ls := [((.slice kA1 kn1 kc1), .ints kL1)]) kH (by repeat (with_reducible (first | assumption | exact Below.refl _ _ | refine Below.alloc ?_ (by first | omega | (simp; done) | (simp; omega)) _ | refine Below.setCell ?_ (by first | omega | (simp; done) | (simp; omega)) _ | refine Below.drew ?_ | refine below_drewN ?_ _)))) kL1n).mono ?_
      rintro e w1 ⟨rfl, b1⟩
      have z1 := b1.size
      try simp only [World.size_alloc, World.size_setCell, size_drew] at z1
      have B1 : Below w.heap.size w w1 := Below.trans (b := _) (by repeat (with_reducible (first | assumption | exact Below.refl _ _ | refine Below.alloc ?_ (by first | omega | (simp; done) | (simp; omega)) _ | refine Below.setCell ?_ (by first | omega | (simp; done) | (simp; omega)) _ | refine Below.drew ?_ | refine below_drewN ?_ _))) (b1.mono (by first | omega | (simp [size_drew]; done) | (simp [size_drew]; omega)))
      have xk_ : Box w1 (w.heap.size) #[.int .i64 kI0, (.slice kA1 kn1 kc1)] 33 := ((Box.new (g := w.heap.size) _ #[.int .i64 kI0, (.slice kA1 kn1 kc1)] 33 (by simp)).alloc _).below b1 (by first | omega | (simp [size_drew]; done) | (simp [size_drew]; omega))
      have xk := xk_; clear xk_
      have xa_ : Box w1 (w.heap.size + 1) #[(.slice aA0 an0 ac0), (.slice aA1 an1 ac1)] 38 := (Box.new (g := w.heap.size + 1) _ #[(.slice aA0 an0 ac0), (.slice aA1 an1 ac1)] 38 (by simp)).below b1 (by first | omega | (simp [size_drew]; done) | (simp [size_drew]; omega))
      have xa := xa_; clear xa_
      obtain ⟨cxk_0, cxk_1, fxk_0, fxk_1⟩ := xk.two
      have l_xk_0 : w.heap.size < w1.heap.size := by omega
      obtain ⟨cxa_0, cxa_1, fxa_0, fxa_1⟩ := xa.two
      have l_xa_0 : w.heap.size + 1 < w1.heap.size := by omega
      go_wp2_with fail
      refine (l03All_any _ _ _ _ _ _ (aL0i.below (by repeat (with_reducible (first | assumption | exact Below.refl _ _ | refine Below.alloc ?_ (by first | omega | (simp; done) | (simp; omega)) _ | refine Below.setCell ?_ (by first | omega | (simp; done) | (simp; omega)) _ | refine Below.drew ?_ | refine below_drewN ?_ _)))) (by omega)).mono ?_
      rintro e w_ ⟨rfl, rfl⟩
      go_wp2_with fail
      refine (l03All_any _ _ _ _ _ _ (aL1i.below (by repeat (with_reducible (first | assumption | exact Below.refl _ _ | refine Below.alloc ?_ (by first | omega | (simp; done) | (simp; omega)) _ | refine Below.setCell ?_ (by first | omega | (simp; done) | (simp; omega)) _ | refine Below.drew ?_ | refine below_drewN ?_ _)))) (by omega)).mono ?_
      rintro e w_ ⟨rfl, rfl⟩
      go_wp2
      go_ret
      exact ⟨ret_bool (by rw [HE.out]; simp_all), by repeat (with_reducible (first | assumption | exact Below.refl _ _ | refine Below.alloc ?_ (by first | omega | (simp; done) | (simp; omega)) _ | refine Below.setCell ?_ (by first | omega | (simp; done) | (simp; omega)) _ | refine Below.drew ?_ | refine below_drewN ?_ _))⟩
end Go.Proofs.Ytllnnbmgdbinnaa

/- Contracts of OtDeal, the program's and the reference's. -/
import Derived.Test.YtakmgghjpompoaaTapeL
import Derived.Test.YtakmgghjpompoaaOt
namespace Go.Proofs.Ytakmgghjpompoaa
set_option linter.unusedSimpArgs false
set_option linter.unusedVariables false
open Go.RowKit
def dealOk (s a : Int) : Bool := tapeOk s a && decide (a ≤ 900000)
def dA (s a : Int) : Int := if dealOk s a then tapeB s a 65536 else 0
def dT1 (s a : Int) : Int := tapeM s a 65536
def dB (s a : Int) : Int := if dealOk s a then tapeB s (dT1 s a) 65536 else 0
def dT2 (s a : Int) : Int := tapeM s (dT1 s a) 65536
def dK (s a : Int) : Int := if dealOk s a then tapeB s (dT2 s a) 2 else 0
def dR (s a : Int) : Int := if dealOk s a then (if tapeB s (dT2 s a) 2 = 1 then tapeB s (dT1 s a) 65536 else tapeB s a 65536) else 0
def dT3 (s a : Int) : Int := if dealOk s a then tapeM s (dT2 s a) 2 else a
def dealV (s a : Int) : Value := .tuple #[.agg #[.int .i64 (dA s a), .int .i64 (dB s a)], .agg #[.int .i64 (dK s a), .int .i64 (dR s a)], .agg #[.int .i64 s, .int .i64 (dT3 s a)]]
/-- The value of a deal, written out. -/
def dealW (s a r : Int) : Value := .tuple #[.agg #[.int .i64 (tapeB s a 65536), .int .i64 (tapeB s (tapeM s a 65536) 65536)], .agg #[.int .i64 (tapeB s (tapeM s (tapeM s a 65536) 65536) 2), .int .i64 r], .agg #[.int .i64 s, .int .i64 (tapeM s (tapeM s (tapeM s a 65536) 65536) 2)]]
theorem deal_1 {s a : Int} (hd : dealOk s a = true) (h : (tapeB s (tapeM s (tapeM s a 65536) 65536) 2 == 1) = true) : dealV s a = dealW s a (tapeB s (tapeM s a 65536) 65536) := by
  have h' : tapeB s (tapeM s (tapeM s a 65536) 65536) 2 = 1 := by simpa using h
  simp [dealV, dealW, dA, dB, dK, dR, dT1, dT2, dT3, hd, h']
theorem deal_0 {s a : Int} (hd : dealOk s a = true) (h : (tapeB s (tapeM s (tapeM s a 65536) 65536) 2 == 1) = false) : dealV s a = dealW s a (tapeB s a 65536) := by
  have h' : ¬ tapeB s (tapeM s (tapeM s a 65536) 65536) 2 = 1 := by simpa using h
  simp [dealV, dealW, dA, dB, dK, dR, dT1, dT2, dT3, hd, h']
theorem deal_no {s a : Int} (hd : dealOk s a = false) : dealV s a = .tuple #[.agg #[.int .i64 0, .int .i64 0], .agg #[.int .i64 0, .int .i64 0], .agg #[.int .i64 s, .int .i64 a]] := by
  simp [dealV, dA, dB, dK, dR, dT3, hd]
theorem ret_deal {x y : Value} (h : y = x) : Ending.returned x = .returned y := by rw [h]
set_option maxHeartbeats 2000000 in
set_option maxRecDepth 100000 in
theorem sOtDeal_any (s a : Int) (w : World) :
    Calls Try.prog 57 #[.agg #[.int .i64 s, .int .i64 a]] w fun e w' => e = .returned (dealV s a) ∧ Below w.heap.size w w' := by
  go_enter Try.func57, Try.ntmps57
  go_wp2_with fail
  refine (l06Tape_any _ _ _).mono ?_
  rintro e w1 ⟨rfl, hb1⟩
  have hB1 : Below w.heap.size w w1 := by repeat (first | exact Below.refl _ _ | refine Below.alloc ?_ (by first | omega | (simp; done) | (simp; omega)) _ | refine Below.setCell ?_ (by first | omega | (simp; done) | (simp; omega)) _ | refine Below.drew ?_ | refine below_drewN ?_ _ | refine Below.trans ?_ (hb30.mono (by first | omega | (simp; done) | (simp; omega))) | refine Below.trans ?_ (hb29.mono (by first | omega | (simp; done) | (simp; omega))) | refine Below.trans ?_ (hb28.mono (by first | omega | (simp; done) | (simp; omega))) | refine Below.trans ?_ (hb27.mono (by first | omega | (simp; done) | (simp; omega))) | refine Below.trans ?_ (hb26.mono (by first | omega | (simp; done) | (simp; omega))) | refine Below.trans ?_ (hb25.mono (by first | omega | (simp; done) | (simp; omega))) | refine Below.trans ?_ (hb24.mono (by first | omega | (simp; done) | (simp; omega))) | refine Below.trans ?_ (hb23.mono (by first | omega | (simp; done) | (simp; omega))) | refine Below.trans ?_ (hb22.mono (by first | omega | (simp; done) | (simp; omega))) | refine Below.trans ?_ (hb21.mono (by first | omega | (simp; done) | (simp; omega))) | refine Below.trans ?_ (hb20.mono (by first | omega | (simp; done) | (simp; omega))) | refine Below.trans ?_ (hb19.mono (by first | omega | (simp; done) | (simp; omega))) | refine Below.trans ?_ (hb18.mono (by first | omega | (simp; done) | (simp; omega))) | refine Below.trans ?_ (hb17.mono (by first | omega | (simp; done) | (simp; omega))) | refine Below.trans ?_ (hb16.mono (by first | omega | (simp; done) | (simp; omega))) | refine Below.trans ?_ (hb15.mono (by first | omega | (simp; done) | (simp; omega))) | refine Below.trans ?_ (hb14.mono (by first | omega | (simp; done) | (simp; omega))) | refine Below.trans ?_ (hb13.mono (by first | omega | (simp; done) | (simp; omega))) | refine Below.trans ?_ (hb12.mono (by first | omega | (simp; done) | (simp; omega))) | refine Below.trans ?_ (hb11.mono (by first | omega | (simp; done) | (simp; omega))) | refine Below.trans ?_ (hb10.mono (by first | omega | (simp; done) | (simp; omega))) | refine Below.trans ?_ (hb9.mono (by first | omega | (simp; done) | (simp; omega))) | refine Below.trans ?_ (hb8.mono (by first | omega | (simp; done) | (simp; omega))) | refine Below.trans ?_ (hb7.mono (by first | omega | (simp; done) | (simp; omega))) | refine Below.trans ?_ (hb6.mono (by first | omega | (simp; done) | (simp; omega))) | refine Below.trans ?_ (hb5.mono (by first | omega | (simp; done) | (simp; omega))) | refine Below.trans ?_ (hb4.mono (by first | omega | (simp; done) | (simp; omega))) | refine Below.trans ?_ (hb3.mono (by first | omega | (simp; done) | (simp; omega))) | refine Below.trans ?_ (hb2.mono (by first | omega | (simp; done) | (simp; omega))) | refine Below.trans ?_ (hb1.mono (by first | omega | (simp; done) | (simp; omega))))
  have hz1 := hb1.size
  simp only [World.size_alloc] at hz1
  have x0 : Box w1 w.heap.size #[.int .i64 s, .int .i64 a] 65 := (by refine Box.below ?_ hb1 (by simp <;> omega); repeat (first | assumption | exact Box.new _ _ _ (by simp; done) | exact Box.new _ _ _ rfl | refine Box.alloc ?_ _))
  have x1 : Box w1 (w.heap.size + 1) #[.int .i64 0, .int .i64 0] 46 := (by refine Box.below ?_ hb1 (by simp <;> omega); repeat (first | assumption | exact Box.new _ _ _ (by simp; done) | exact Box.new _ _ _ rfl | refine Box.alloc ?_ _))
  have x2 : Box w1 (w.heap.size + 1 + 1) #[.int .i64 0, .int .i64 0] 31 := (by refine Box.below ?_ hb1 (by simp <;> omega); repeat (first | assumption | exact Box.new _ _ _ (by simp; done) | exact Box.new _ _ _ rfl | refine Box.alloc ?_ _))
  have x3 : Box w1 (w.heap.size + 1 + 1 + 1) #[.int .i64 0, .int .i64 0] 65 := (by refine Box.below ?_ hb1 (by simp <;> omega); repeat (first | assumption | exact Box.new _ _ _ (by simp; done) | exact Box.new _ _ _ rfl | refine Box.alloc ?_ _))
  obtain ⟨c0, c1, _, _⟩ := x0.two
  by_cases hd : dealOk s a = true
  · have hd2 : (tapeOk s a && decide (a ≤ 900000)) = true := hd
    go_wp2_with fail
    refine (sTapeBelow_any _ _ _ _).mono ?_
    rintro e w2 ⟨rfl, hb2⟩
    have hB2 : Below w.heap.size w w2 := hB1.trans (hb2.mono (by omega))
    have hz2 := hb2.size
    have x1 : Box w2 _ _ _ := x1.below hb2 (by omega)
    have x2 : Box w2 _ _ _ := x2.below hb2 (by omega)
    have x3 : Box w2 _ _ _ := x3.below hb2 (by omega)
    go_wp2_with fail
    refine (sTapeBelow_any _ _ _ _).mono ?_
    rintro e w3 ⟨rfl, hb3⟩
    have hB3 : Below w.heap.size w w3 := (hB2.alloc (by omega) _).trans (hb3.mono (by simp; omega))
    have hz3 := hb3.size
    simp only [World.size_alloc] at hz3
    have x1 : Box w3 _ _ _ := (x1.alloc _).below hb3 (by simp; omega)
    have x2 : Box w3 _ _ _ := (x2.alloc _).below hb3 (by simp; omega)
    have x3 : Box w3 _ _ _ := (x3.alloc _).below hb3 (by simp; omega)
    go_wp2_with fail
    refine (sTapeBelow_any _ _ _ _).mono ?_
    rintro e w4 ⟨rfl, hb4⟩
    have hB4 : Below w.heap.size w w4 := (hB3.alloc (by omega) _).trans (hb4.mono (by simp; omega))
    have hz4 := hb4.size
    simp only [World.size_alloc] at hz4
    have hlt4 : w.heap.size < w4.heap.size := by omega
    have x1 : Box w4 _ _ _ := (x1.alloc _).below hb4 (by simp; omega)
    have x2 : Box w4 _ _ _ := (x2.alloc _).below hb4 (by simp; omega)
    have x3 : Box w4 _ _ _ := (x3.alloc _).below hb4 (by simp; omega)
    obtain ⟨d0, d1, d2, d3⟩ := x1.two
    obtain ⟨e0, e1, e2, e3⟩ := x2.two
    obtain ⟨g0, g1, g2, g3⟩ := x3.two
    have hl0 : w.heap.size < w4.heap.size := (by omega); have hl1 : w.heap.size + 1 < w4.heap.size := (by omega); have hl2 : w.heap.size + 1 + 1 < w4.heap.size := (by omega); have hl3 : w.heap.size + 1 + 1 + 1 < w4.heap.size := (by omega)
    clear hb1 hb2 hb3 hb4 x0 c0 c1
    go_wp2
    all_goals go_region
    all_goals go_wp2
    · refine bodyPost_ret (v := dealW s a (tapeB s (tapeM s a 65536) 65536)) ?_ rfl ⟨ret_deal (deal_1 hd (by assumption)), ?_⟩
      · simp [results, Try.results57, go_sem, dealW, d0, d1, d2, d3, e0, e1, e2, e3, g0, g1, g2, g3, hl0, hl1, hl2, hl3]
      · repeat (with_reducible (first | assumption | exact Below.refl _ _ | refine Below.alloc ?_ (by first | omega | (simp; done) | (simp; omega)) _ | refine Below.setCell ?_ (by first | omega | (simp; done) | (simp; omega)) _ | refine Below.drew ?_ | refine below_drewN ?_ _))
    · refine bodyPost_ret (v := dealW s a (tapeB s a 65536)) ?_ rfl ⟨ret_deal (deal_0 hd (by assumption)), ?_⟩
      · simp [results, Try.results57, go_sem, dealW, d0, d1, d2, d3, e0, e1, e2, e3, g0, g1, g2, g3, hl0, hl1, hl2, hl3]
      · repeat (with_reducible (first | assumption | exact Below.refl _ _ | refine Below.alloc ?_ (by first | omega | (simp; done) | (simp; omega)) _ | refine Below.setCell ?_ (by first | omega | (simp; done) | (simp; omega)) _ | refine Below.drew ?_ | refine below_drewN ?_ _))
  · have hd2 : (tapeOk s a && decide (a ≤ 900000)) = false := by simpa [dealOk] using hd
    have hd3 : dealOk s a = false := by simpa using hd
    obtain ⟨d0, d1, d2, d3⟩ := x1.two
    obtain ⟨e0, e1, e2, e3⟩ := x2.two
    obtain ⟨g0, g1, g2, g3⟩ := x3.two
    clear hd
    go_wp2
    go_region
    go_wp2
    refine bodyPost_ret (v := .tuple #[.agg #[.int .i64 0, .int .i64 0], .agg #[.int .i64 0, .int .i64 0], .agg #[.int .i64 s, .int .i64 a]]) ?_ rfl ⟨ret_deal (deal_no hd3), ?_⟩
    · simp [results, Try.results57, go_sem, d0, d1, d2, d3, e0, e1, e2, e3, g0, g1, g2, g3]
    · repeat (with_reducible (first | assumption | exact Below.refl _ _ | refine Below.alloc ?_ (by first | omega | (simp; done) | (simp; omega)) _ | refine Below.setCell ?_ (by first | omega | (simp; done) | (simp; omega)) _ | refine Below.drew ?_ | refine below_drewN ?_ _))
set_option maxHeartbeats 2000000 in
set_option maxRecDepth 100000 in
theorem iOtDeal_yes1 (s a : Int) (w : World) (A B K M1 M2 M3 : Int) (hd : dealOk s a = true) (eA : Hid (tapeB s a 65536 = A)) (eM1 : Hid (tapeM s a 65536 = M1)) (eB : Hid (tapeB s M1 65536 = B)) (eM2 : Hid (tapeM s M1 65536 = M2)) (eK : Hid (tapeB s M2 2 = K)) (eM3 : Hid (tapeM s M2 2 = M3)) (hk : (K == 1) = true) :
    Calls Try.prog 59 #[.agg #[.int .i64 s, .int .i64 a]] w fun e w' => e = .returned (.tuple #[.agg #[.int .i64 A, .int .i64 B], .agg #[.int .i64 K, .int .i64 B], .agg #[.int .i64 s, .int .i64 M3]]) ∧ Below w.heap.size w w' := by
  obtain ⟨hd1, hd2⟩ := and_true_of hd
  have hd2 : ¬ 900000 < a := by have := of_decide_eq_true hd2; omega
  go_enter Try.func59, Try.ntmps59
  go_wp2_with fail
  refine (iTapeOk_any _ _ _).mono ?_
  rintro e w1 ⟨rfl, hb1⟩
  have hB1 : Below w.heap.size w w1 := by repeat (first | exact Below.refl _ _ | refine Below.alloc ?_ (by first | omega | (simp; done) | (simp; omega)) _ | refine Below.setCell ?_ (by first | omega | (simp; done) | (simp; omega)) _ | refine Below.drew ?_ | refine below_drewN ?_ _ | refine Below.trans ?_ (hb30.mono (by first | omega | (simp; done) | (simp; omega))) | refine Below.trans ?_ (hb29.mono (by first | omega | (simp; done) | (simp; omega))) | refine Below.trans ?_ (hb28.mono (by first | omega | (simp; done) | (simp; omega))) | refine Below.trans ?_ (hb27.mono (by first | omega | (simp; done) | (simp; omega))) | refine Below.trans ?_ (hb26.mono (by first | omega | (simp; done) | (simp; omega))) | refine Below.trans ?_ (hb25.mono (by first | omega | (simp; done) | (simp; omega))) | refine Below.trans ?_ (hb24.mono (by first | omega | (simp; done) | (simp; omega))) | refine Below.trans ?_ (hb23.mono (by first | omega | (simp; done) | (simp; omega))) | refine Below.trans ?_ (hb22.mono (by first | omega | (simp; done) | (simp; omega))) | refine Below.trans ?_ (hb21.mono (by first | omega | (simp; done) | (simp; omega))) | refine Below.trans ?_ (hb20.mono (by first | omega | (simp; done) | (simp; omega))) | refine Below.trans ?_ (hb19.mono (by first | omega | (simp; done) | (simp; omega))) | refine Below.trans ?_ (hb18.mono (by first | omega | (simp; done) | (simp; omega))) | refine Below.trans ?_ (hb17.mono (by first | omega | (simp; done) | (simp; omega))) | refine Below.trans ?_ (hb16.mono (by first | omega | (simp; done) | (simp; omega))) | refine Below.trans ?_ (hb15.mono (by first | omega | (simp; done) | (simp; omega))) | refine Below.trans ?_ (hb14.mono (by first | omega | (simp; done) | (simp; omega))) | refine Below.trans ?_ (hb13.mono (by first | omega | (simp; done) | (simp; omega))) | refine Below.trans ?_ (hb12.mono (by first | omega | (simp; done) | (simp; omega))) | refine Below.trans ?_ (hb11.mono (by first | omega | (simp; done) | (simp; omega))) | refine Below.trans ?_ (hb10.mono (by first | omega | (simp; done) | (simp; omega))) | refine Below.trans ?_ (hb9.mono (by first | omega | (simp; done) | (simp; omega))) | refine Below.trans ?_ (hb8.mono (by first | omega | (simp; done) | (simp; omega))) | refine Below.trans ?_ (hb7.mono (by first | omega | (simp; done) | (simp; omega))) | refine Below.trans ?_ (hb6.mono (by first | omega | (simp; done) | (simp; omega))) | refine Below.trans ?_ (hb5.mono (by first | omega | (simp; done) | (simp; omega))) | refine Below.trans ?_ (hb4.mono (by first | omega | (simp; done) | (simp; omega))) | refine Below.trans ?_ (hb3.mono (by first | omega | (simp; done) | (simp; omega))) | refine Below.trans ?_ (hb2.mono (by first | omega | (simp; done) | (simp; omega))) | refine Below.trans ?_ (hb1.mono (by first | omega | (simp; done) | (simp; omega))))
  have hz1 := hb1.size
  simp only [World.size_alloc] at hz1
  have x0 : Box w1 w.heap.size #[.int .i64 s, .int .i64 a] 65 := (by refine Box.below ?_ hb1 (by simp <;> omega); repeat (first | assumption | exact Box.new _ _ _ (by simp; done) | exact Box.new _ _ _ rfl | refine Box.alloc ?_ _))
  have x1 : Box w1 (w.heap.size + 1) #[.int .i64 0, .int .i64 0] 46 := (by refine Box.below ?_ hb1 (by simp <;> omega); repeat (first | assumption | exact Box.new _ _ _ (by simp; done) | exact Box.new _ _ _ rfl | refine Box.alloc ?_ _))
  have x2 : Box w1 (w.heap.size + 1 + 1) #[.int .i64 0, .int .i64 0] 31 := (by refine Box.below ?_ hb1 (by simp <;> omega); repeat (first | assumption | exact Box.new _ _ _ (by simp; done) | exact Box.new _ _ _ rfl | refine Box.alloc ?_ _))
  have x3 : Box w1 (w.heap.size + 1 + 1 + 1) #[.int .i64 0, .int .i64 0] 65 := (by refine Box.below ?_ hb1 (by simp <;> omega); repeat (first | assumption | exact Box.new _ _ _ (by simp; done) | exact Box.new _ _ _ rfl | refine Box.alloc ?_ _))
  obtain ⟨c0, c1, _, _⟩ := x0.two
  have hl0 : w.heap.size < w1.heap.size := (by omega); have hl1 : w.heap.size + 1 < w1.heap.size := (by omega); have hl2 : w.heap.size + 1 + 1 < w1.heap.size := (by omega); have hl3 : w.heap.size + 1 + 1 + 1 < w1.heap.size := (by omega)
  go_wp2_with fail
  refine (iTapeBelow_any _ _ _ _).mono ?_
  rintro e w2 ⟨rfl, hb2⟩
  rw [eA.out, eM1.out]
  have hB2 : Below w.heap.size w w2 := Below.trans (b := _) (by repeat (with_reducible (first | assumption | exact Below.refl _ _ | refine Below.alloc ?_ (by first | omega | (simp; done) | (simp; omega)) _ | refine Below.setCell ?_ (by first | omega | (simp; done) | (simp; omega)) _ | refine Below.drew ?_ | refine below_drewN ?_ _))) (hb2.mono (by simp; omega))
  have hz2 := hb2.size
  simp only [World.size_alloc, World.size_setCell] at hz2
  have hl0 : w.heap.size < w2.heap.size := (by omega); have hl1 : w.heap.size + 1 < w2.heap.size := (by omega); have hl2 : w.heap.size + 1 + 1 < w2.heap.size := (by omega); have hl3 : w.heap.size + 1 + 1 + 1 < w2.heap.size := (by omega)
  have : w1.heap.size < w2.heap.size := by omega
  have : w1.heap.size + 1 < w2.heap.size := by omega
  have x0 : Box w2 w.heap.size #[.int .i64 s, .int .i64 a] 65 := (by refine Box.below ?_ hb2 (by simp <;> omega); repeat (with_reducible (first | assumption | apply Box.set0 | apply Box.set1 | (refine Box.far' ?_ ?_; omega) | (refine Box.new _ _ _ ?_; first | rfl | (simp; done)) | refine Box.alloc ?_ _)))
  have x1 : Box w2 (w.heap.size + 1) #[.int .i64 0, .int .i64 0] 46 := (by refine Box.below ?_ hb2 (by simp <;> omega); repeat (with_reducible (first | assumption | apply Box.set0 | apply Box.set1 | (refine Box.far' ?_ ?_; omega) | (refine Box.new _ _ _ ?_; first | rfl | (simp; done)) | refine Box.alloc ?_ _)))
  have x2 : Box w2 (w.heap.size + 1 + 1) #[.int .i64 0, .int .i64 0] 31 := (by refine Box.below ?_ hb2 (by simp <;> omega); repeat (with_reducible (first | assumption | apply Box.set0 | apply Box.set1 | (refine Box.far' ?_ ?_; omega) | (refine Box.new _ _ _ ?_; first | rfl | (simp; done)) | refine Box.alloc ?_ _)))
  have x3 : Box w2 (w.heap.size + 1 + 1 + 1) #[.int .i64 0, .int .i64 0] 65 := (by refine Box.below ?_ hb2 (by simp <;> omega); repeat (with_reducible (first | assumption | apply Box.set0 | apply Box.set1 | (refine Box.far' ?_ ?_; omega) | (refine Box.new _ _ _ ?_; first | rfl | (simp; done)) | refine Box.alloc ?_ _)))
  have x5 : Box w2 w1.heap.size #[.int .i64 0, .int .i64 0] 46 := (by refine Box.below ?_ hb2 (by simp <;> omega); repeat (with_reducible (first | assumption | apply Box.set0 | apply Box.set1 | (refine Box.far' ?_ ?_; omega) | (refine Box.new _ _ _ ?_; first | rfl | (simp; done)) | refine Box.alloc ?_ _)))
  have x6 : Box w2 (w1.heap.size + 1) #[.int .i64 0, .int .i64 0] 31 := (by refine Box.below ?_ hb2 (by simp <;> omega); repeat (with_reducible (first | assumption | apply Box.set0 | apply Box.set1 | (refine Box.far' ?_ ?_; omega) | (refine Box.new _ _ _ ?_; first | rfl | (simp; done)) | refine Box.alloc ?_ _)))
  obtain ⟨c1, c2, c3, c4⟩ := x0.two
  obtain ⟨d1, d2, d3, d4⟩ := x5.two
  go_wp2_with fail
  refine (iTapeBelow_any _ _ _ _).mono ?_
  rintro e w3 ⟨rfl, hb3⟩
  rw [eB.out, eM2.out]
  have hB3 : Below w.heap.size w w3 := Below.trans (b := _) (by repeat (with_reducible (first | assumption | exact Below.refl _ _ | refine Below.alloc ?_ (by first | omega | (simp; done) | (simp; omega)) _ | refine Below.setCell ?_ (by first | omega | (simp; done) | (simp; omega)) _ | refine Below.drew ?_ | refine below_drewN ?_ _))) (hb3.mono (by simp; omega))
  have hz3 := hb3.size
  simp only [World.size_alloc, World.size_setCell] at hz3
  have hl0 : w.heap.size < w3.heap.size := (by omega); have hl1 : w.heap.size + 1 < w3.heap.size := (by omega); have hl2 : w.heap.size + 1 + 1 < w3.heap.size := (by omega); have hl3 : w.heap.size + 1 + 1 + 1 < w3.heap.size := (by omega)
  have : w1.heap.size < w3.heap.size := by omega
  have : w1.heap.size + 1 < w3.heap.size := by omega
  have x0 : Box w3 w.heap.size #[.int .i64 s, .int .i64 M1] 65 := (by refine Box.below ?_ hb3 (by simp <;> omega); repeat (with_reducible (first | assumption | apply Box.set0 | apply Box.set1 | (refine Box.far' ?_ ?_; omega) | (refine Box.new _ _ _ ?_; first | rfl | (simp; done)) | refine Box.alloc ?_ _)))
  have x1 : Box w3 (w.heap.size + 1) #[.int .i64 0, .int .i64 0] 46 := (by refine Box.below ?_ hb3 (by simp <;> omega); repeat (with_reducible (first | assumption | apply Box.set0 | apply Box.set1 | (refine Box.far' ?_ ?_; omega) | (refine Box.new _ _ _ ?_; first | rfl | (simp; done)) | refine Box.alloc ?_ _)))
  have x2 : Box w3 (w.heap.size + 1 + 1) #[.int .i64 0, .int .i64 0] 31 := (by refine Box.below ?_ hb3 (by simp <;> omega); repeat (with_reducible (first | assumption | apply Box.set0 | apply Box.set1 | (refine Box.far' ?_ ?_; omega) | (refine Box.new _ _ _ ?_; first | rfl | (simp; done)) | refine Box.alloc ?_ _)))
  have x3 : Box w3 (w.heap.size + 1 + 1 + 1) #[.int .i64 0, .int .i64 0] 65 := (by refine Box.below ?_ hb3 (by simp <;> omega); repeat (with_reducible (first | assumption | apply Box.set0 | apply Box.set1 | (refine Box.far' ?_ ?_; omega) | (refine Box.new _ _ _ ?_; first | rfl | (simp; done)) | refine Box.alloc ?_ _)))
  have x5 : Box w3 w1.heap.size #[.int .i64 A, .int .i64 0] 46 := (by refine Box.below ?_ hb3 (by simp <;> omega); repeat (with_reducible (first | assumption | apply Box.set0 | apply Box.set1 | (refine Box.far' ?_ ?_; omega) | (refine Box.new _ _ _ ?_; first | rfl | (simp; done)) | refine Box.alloc ?_ _)))
  have x6 : Box w3 (w1.heap.size + 1) #[.int .i64 0, .int .i64 0] 31 := (by refine Box.below ?_ hb3 (by simp <;> omega); repeat (with_reducible (first | assumption | apply Box.set0 | apply Box.set1 | (refine Box.far' ?_ ?_; omega) | (refine Box.new _ _ _ ?_; first | rfl | (simp; done)) | refine Box.alloc ?_ _)))
  obtain ⟨c1, c2, c3, c4⟩ := x0.two
  obtain ⟨d1, d2, d3, d4⟩ := x5.two
  go_wp2_with fail
  refine (iTapeBelow_any _ _ _ _).mono ?_
  rintro e w4 ⟨rfl, hb4⟩
  rw [eK.out, eM3.out]
  have hB4 : Below w.heap.size w w4 := Below.trans (b := _) (by repeat (with_reducible (first | assumption | exact Below.refl _ _ | refine Below.alloc ?_ (by first | omega | (simp; done) | (simp; omega)) _ | refine Below.setCell ?_ (by first | omega | (simp; done) | (simp; omega)) _ | refine Below.drew ?_ | refine below_drewN ?_ _))) (hb4.mono (by simp; omega))
  have hz4 := hb4.size
  simp only [World.size_alloc, World.size_setCell] at hz4
  have hl0 : w.heap.size < w4.heap.size := (by omega); have hl1 : w.heap.size + 1 < w4.heap.size := (by omega); have hl2 : w.heap.size + 1 + 1 < w4.heap.size := (by omega); have hl3 : w.heap.size + 1 + 1 + 1 < w4.heap.size := (by omega)
  have : w1.heap.size < w4.heap.size := by omega
  have : w1.heap.size + 1 < w4.heap.size := by omega
  have x0 : Box w4 w.heap.size #[.int .i64 s, .int .i64 M2] 65 := (by refine Box.below ?_ hb4 (by simp <;> omega); repeat (with_reducible (first | assumption | apply Box.set0 | apply Box.set1 | (refine Box.far' ?_ ?_; omega) | (refine Box.new _ _ _ ?_; first | rfl | (simp; done)) | refine Box.alloc ?_ _)))
  have x1 : Box w4 (w.heap.size + 1) #[.int .i64 0, .int .i64 0] 46 := (by refine Box.below ?_ hb4 (by simp <;> omega); repeat (with_reducible (first | assumption | apply Box.set0 | apply Box.set1 | (refine Box.far' ?_ ?_; omega) | (refine Box.new _ _ _ ?_; first | rfl | (simp; done)) | refine Box.alloc ?_ _)))
  have x2 : Box w4 (w.heap.size + 1 + 1) #[.int .i64 0, .int .i64 0] 31 := (by refine Box.below ?_ hb4 (by simp <;> omega); repeat (with_reducible (first | assumption | apply Box.set0 | apply Box.set1 | (refine Box.far' ?_ ?_; omega) | (refine Box.new _ _ _ ?_; first | rfl | (simp; done)) | refine Box.alloc ?_ _)))
  have x3 : Box w4 (w.heap.size + 1 + 1 + 1) #[.int .i64 0, .int .i64 0] 65 := (by refine Box.below ?_ hb4 (by simp <;> omega); repeat (with_reducible (first | assumption | apply Box.set0 | apply Box.set1 | (refine Box.far' ?_ ?_; omega) | (refine Box.new _ _ _ ?_; first | rfl | (simp; done)) | refine Box.alloc ?_ _)))
  have x5 : Box w4 w1.heap.size #[.int .i64 A, .int .i64 B] 46 := (by refine Box.below ?_ hb4 (by simp <;> omega); repeat (with_reducible (first | assumption | apply Box.set0 | apply Box.set1 | (refine Box.far' ?_ ?_; omega) | (refine Box.new _ _ _ ?_; first | rfl | (simp; done)) | refine Box.alloc ?_ _)))
  have x6 : Box w4 (w1.heap.size + 1) #[.int .i64 0, .int .i64 0] 31 := (by refine Box.below ?_ hb4 (by simp <;> omega); repeat (with_reducible (first | assumption | apply Box.set0 | apply Box.set1 | (refine Box.far' ?_ ?_; omega) | (refine Box.new _ _ _ ?_; first | rfl | (simp; done)) | refine Box.alloc ?_ _)))
  obtain ⟨c1, c2, c3, c4⟩ := x0.two
  obtain ⟨d1, d2, d3, d4⟩ := x5.two
  obtain ⟨g1, g2, g3, g4⟩ := x6.two
  obtain ⟨p0, p1, p2, p3⟩ := x1.two
  obtain ⟨e0, e1, e2, e3⟩ := x2.two
  obtain ⟨k0, k1, k2, k3⟩ := x3.two
  have y6 : Box (((((w4.setCell ⟨w1.heap.size + 1, 0, none⟩ (.int .i64 K)).setCell ⟨w.heap.size, 0, none⟩ (.int .i64 s)).setCell ⟨w.heap.size, 1, none⟩ (.int .i64 M3)).setCell ⟨w1.heap.size + 1, 1, none⟩ (.int .i64 A)).setCell ⟨w1.heap.size + 1, 1, none⟩ (.int .i64 B)) (w1.heap.size + 1) #[.int .i64 K, .int .i64 B] 31 := (by repeat (with_reducible (first | assumption | apply Box.set0 | apply Box.set1 | (refine Box.far' ?_ ?_; omega) | (refine Box.new _ _ _ ?_; first | rfl | (simp; done)) | refine Box.alloc ?_ _)))
  obtain ⟨y0, y1, _, _⟩ := y6.two
  clear y6
  clear x0 x1 x2 x3 x5 x6 hb1 hb2 hb3 hb4
  go_wp2
  go_region
  go_wp2
  refine bodyPost_ret (v := .tuple #[.agg #[.int .i64 A, .int .i64 B], .agg #[.int .i64 K, .int .i64 B], .agg #[.int .i64 s, .int .i64 M3]]) ?_ rfl ⟨rfl, ?_⟩
  · simp [results, Try.results59, go_sem, p0, p1, p2, p3, e0, e1, e2, e3, k0, k1, k2, k3]
  · repeat (with_reducible (first | assumption | exact Below.refl _ _ | refine Below.alloc ?_ (by first | omega | (simp; done) | (simp; omega)) _ | refine Below.setCell ?_ (by first | omega | (simp; done) | (simp; omega)) _ | refine Below.drew ?_ | refine below_drewN ?_ _))
set_option maxHeartbeats 2000000 in
set_option maxRecDepth 100000 in
theorem iOtDeal_yes0 (s a : Int) (w : World) (A B K M1 M2 M3 : Int) (hd : dealOk s a = true) (eA : Hid (tapeB s a 65536 = A)) (eM1 : Hid (tapeM s a 65536 = M1)) (eB : Hid (tapeB s M1 65536 = B)) (eM2 : Hid (tapeM s M1 65536 = M2)) (eK : Hid (tapeB s M2 2 = K)) (eM3 : Hid (tapeM s M2 2 = M3)) (hk : (K == 1) = false) :
    Calls Try.prog 59 #[.agg #[.int .i64 s, .int .i64 a]] w fun e w' => e = .returned (.tuple #[.agg #[.int .i64 A, .int .i64 B], .agg #[.int .i64 K, .int .i64 A], .agg #[.int .i64 s, .int .i64 M3]]) ∧ Below w.heap.size w w' := by
  obtain ⟨hd1, hd2⟩ := and_true_of hd
  have hd2 : ¬ 900000 < a := by have := of_decide_eq_true hd2; omega
  go_enter Try.func59, Try.ntmps59
  go_wp2_with fail
  refine (iTapeOk_any _ _ _).mono ?_
  rintro e w1 ⟨rfl, hb1⟩
  have hB1 : Below w.heap.size w w1 := by repeat (first | exact Below.refl _ _ | refine Below.alloc ?_ (by first | omega | (simp; done) | (simp; omega)) _ | refine Below.setCell ?_ (by first | omega | (simp; done) | (simp; omega)) _ | refine Below.drew ?_ | refine below_drewN ?_ _ | refine Below.trans ?_ (hb30.mono (by first | omega | (simp; done) | (simp; omega))) | refine Below.trans ?_ (hb29.mono (by first | omega | (simp; done) | (simp; omega))) | refine Below.trans ?_ (hb28.mono (by first | omega | (simp; done) | (simp; omega))) | refine Below.trans ?_ (hb27.mono (by first | omega | (simp; done) | (simp; omega))) | refine Below.trans ?_ (hb26.mono (by first | omega | (simp; done) | (simp; omega))) | refine Below.trans ?_ (hb25.mono (by first | omega | (simp; done) | (simp; omega))) | refine Below.trans ?_ (hb24.mono (by first | omega | (simp; done) | (simp; omega))) | refine Below.trans ?_ (hb23.mono (by first | omega | (simp; done) | (simp; omega))) | refine Below.trans ?_ (hb22.mono (by first | omega | (simp; done) | (simp; omega))) | refine Below.trans ?_ (hb21.mono (by first | omega | (simp; done) | (simp; omega))) | refine Below.trans ?_ (hb20.mono (by first | omega | (simp; done) | (simp; omega))) | refine Below.trans ?_ (hb19.mono (by first | omega | (simp; done) | (simp; omega))) | refine Below.trans ?_ (hb18.mono (by first | omega | (simp; done) | (simp; omega))) | refine Below.trans ?_ (hb17.mono (by first | omega | (simp; done) | (simp; omega))) | refine Below.trans ?_ (hb16.mono (by first | omega | (simp; done) | (simp; omega))) | refine Below.trans ?_ (hb15.mono (by first | omega | (simp; done) | (simp; omega))) | refine Below.trans ?_ (hb14.mono (by first | omega | (simp; done) | (simp; omega))) | refine Below.trans ?_ (hb13.mono (by first | omega | (simp; done) | (simp; omega))) | refine Below.trans ?_ (hb12.mono (by first | omega | (simp; done) | (simp; omega))) | refine Below.trans ?_ (hb11.mono (by first | omega | (simp; done) | (simp; omega))) | refine Below.trans ?_ (hb10.mono (by first | omega | (simp; done) | (simp; omega))) | refine Below.trans ?_ (hb9.mono (by first | omega | (simp; done) | (simp; omega))) | refine Below.trans ?_ (hb8.mono (by first | omega | (simp; done) | (simp; omega))) | refine Below.trans ?_ (hb7.mono (by first | omega | (simp; done) | (simp; omega))) | refine Below.trans ?_ (hb6.mono (by first | omega | (simp; done) | (simp; omega))) | refine Below.trans ?_ (hb5.mono (by first | omega | (simp; done) | (simp; omega))) | refine Below.trans ?_ (hb4.mono (by first | omega | (simp; done) | (simp; omega))) | refine Below.trans ?_ (hb3.mono (by first | omega | (simp; done) | (simp; omega))) | refine Below.trans ?_ (hb2.mono (by first | omega | (simp; done) | (simp; omega))) | refine Below.trans ?_ (hb1.mono (by first | omega | (simp; done) | (simp; omega))))
  have hz1 := hb1.size
  simp only [World.size_alloc] at hz1
  have x0 : Box w1 w.heap.size #[.int .i64 s, .int .i64 a] 65 := (by refine Box.below ?_ hb1 (by simp <;> omega); repeat (first | assumption | exact Box.new _ _ _ (by simp; done) | exact Box.new _ _ _ rfl | refine Box.alloc ?_ _))
  have x1 : Box w1 (w.heap.size + 1) #[.int .i64 0, .int .i64 0] 46 := (by refine Box.below ?_ hb1 (by simp <;> omega); repeat (first | assumption | exact Box.new _ _ _ (by simp; done) | exact Box.new _ _ _ rfl | refine Box.alloc ?_ _))
  have x2 : Box w1 (w.heap.size + 1 + 1) #[.int .i64 0, .int .i64 0] 31 := (by refine Box.below ?_ hb1 (by simp <;> omega); repeat (first | assumption | exact Box.new _ _ _ (by simp; done) | exact Box.new _ _ _ rfl | refine Box.alloc ?_ _))
  have x3 : Box w1 (w.heap.size + 1 + 1 + 1) #[.int .i64 0, .int .i64 0] 65 := (by refine Box.below ?_ hb1 (by simp <;> omega); repeat (first | assumption | exact Box.new _ _ _ (by simp; done) | exact Box.new _ _ _ rfl | refine Box.alloc ?_ _))
  obtain ⟨c0, c1, _, _⟩ := x0.two
  have hl0 : w.heap.size < w1.heap.size := (by omega); have hl1 : w.heap.size + 1 < w1.heap.size := (by omega); have hl2 : w.heap.size + 1 + 1 < w1.heap.size := (by omega); have hl3 : w.heap.size + 1 + 1 + 1 < w1.heap.size := (by omega)
  go_wp2_with fail
  refine (iTapeBelow_any _ _ _ _).mono ?_
  rintro e w2 ⟨rfl, hb2⟩
  rw [eA.out, eM1.out]
  have hB2 : Below w.heap.size w w2 := Below.trans (b := _) (by repeat (with_reducible (first | assumption | exact Below.refl _ _ | refine Below.alloc ?_ (by first | omega | (simp; done) | (simp; omega)) _ | refine Below.setCell ?_ (by first | omega | (simp; done) | (simp; omega)) _ | refine Below.drew ?_ | refine below_drewN ?_ _))) (hb2.mono (by simp; omega))
  have hz2 := hb2.size
  simp only [World.size_alloc, World.size_setCell] at hz2
  have hl0 : w.heap.size < w2.heap.size := (by omega); have hl1 : w.heap.size + 1 < w2.heap.size := (by omega); have hl2 : w.heap.size + 1 + 1 < w2.heap.size := (by omega); have hl3 : w.heap.size + 1 + 1 + 1 < w2.heap.size := (by omega)
  have : w1.heap.size < w2.heap.size := by omega
  have : w1.heap.size + 1 < w2.heap.size := by omega
  have x0 : Box w2 w.heap.size #[.int .i64 s, .int .i64 a] 65 := (by refine Box.below ?_ hb2 (by simp <;> omega); repeat (with_reducible (first | assumption | apply Box.set0 | apply Box.set1 | (refine Box.far' ?_ ?_; omega) | (refine Box.new _ _ _ ?_; first | rfl | (simp; done)) | refine Box.alloc ?_ _)))
  have x1 : Box w2 (w.heap.size + 1) #[.int .i64 0, .int .i64 0] 46 := (by refine Box.below ?_ hb2 (by simp <;> omega); repeat (with_reducible (first | assumption | apply Box.set0 | apply Box.set1 | (refine Box.far' ?_ ?_; omega) | (refine Box.new _ _ _ ?_; first | rfl | (simp; done)) | refine Box.alloc ?_ _)))
  have x2 : Box w2 (w.heap.size + 1 + 1) #[.int .i64 0, .int .i64 0] 31 := (by refine Box.below ?_ hb2 (by simp <;> omega); repeat (with_reducible (first | assumption | apply Box.set0 | apply Box.set1 | (refine Box.far' ?_ ?_; omega) | (refine Box.new _ _ _ ?_; first | rfl | (simp; done)) | refine Box.alloc ?_ _)))
  have x3 : Box w2 (w.heap.size + 1 + 1 + 1) #[.int .i64 0, .int .i64 0] 65 := (by refine Box.below ?_ hb2 (by simp <;> omega); repeat (with_reducible (first | assumption | apply Box.set0 | apply Box.set1 | (refine Box.far' ?_ ?_; omega) | (refine Box.new _ _ _ ?_; first | rfl | (simp; done)) | refine Box.alloc ?_ _)))
  have x5 : Box w2 w1.heap.size #[.int .i64 0, .int .i64 0] 46 := (by refine Box.below ?_ hb2 (by simp <;> omega); repeat (with_reducible (first | assumption | apply Box.set0 | apply Box.set1 | (refine Box.far' ?_ ?_; omega) | (refine Box.new _ _ _ ?_; first | rfl | (simp; done)) | refine Box.alloc ?_ _)))
  have x6 : Box w2 (w1.heap.size + 1) #[.int .i64 0, .int .i64 0] 31 := (by refine Box.below ?_ hb2 (by simp <;> omega); repeat (with_reducible (first | assumption | apply Box.set0 | apply Box.set1 | (refine Box.far' ?_ ?_; omega) | (refine Box.new _ _ _ ?_; first | rfl | (simp; done)) | refine Box.alloc ?_ _)))
  obtain ⟨c1, c2, c3, c4⟩ := x0.two
  obtain ⟨d1, d2, d3, d4⟩ := x5.two
  go_wp2_with fail
  refine (iTapeBelow_any _ _ _ _).mono ?_
  rintro e w3 ⟨rfl, hb3⟩
  rw [eB.out, eM2.out]
  have hB3 : Below w.heap.size w w3 := Below.trans (b := _) (by repeat (with_reducible (first | assumption | exact Below.refl _ _ | refine Below.alloc ?_ (by first | omega | (simp; done) | (simp; omega)) _ | refine Below.setCell ?_ (by first | omega | (simp; done) | (simp; omega)) _ | refine Below.drew ?_ | refine below_drewN ?_ _))) (hb3.mono (by simp; omega))
  have hz3 := hb3.size
  simp only [World.size_alloc, World.size_setCell] at hz3
  have hl0 : w.heap.size < w3.heap.size := (by omega); have hl1 : w.heap.size + 1 < w3.heap.size := (by omega); have hl2 : w.heap.size + 1 + 1 < w3.heap.size := (by omega); have hl3 : w.heap.size + 1 + 1 + 1 < w3.heap.size := (by omega)
  have : w1.heap.size < w3.heap.size := by omega
  have : w1.heap.size + 1 < w3.heap.size := by omega
  have x0 : Box w3 w.heap.size #[.int .i64 s, .int .i64 M1] 65 := (by refine Box.below ?_ hb3 (by simp <;> omega); repeat (with_reducible (first | assumption | apply Box.set0 | apply Box.set1 | (refine Box.far' ?_ ?_; omega) | (refine Box.new _ _ _ ?_; first | rfl | (simp; done)) | refine Box.alloc ?_ _)))
  have x1 : Box w3 (w.heap.size + 1) #[.int .i64 0, .int .i64 0] 46 := (by refine Box.below ?_ hb3 (by simp <;> omega); repeat (with_reducible (first | assumption | apply Box.set0 | apply Box.set1 | (refine Box.far' ?_ ?_; omega) | (refine Box.new _ _ _ ?_; first | rfl | (simp; done)) | refine Box.alloc ?_ _)))
  have x2 : Box w3 (w.heap.size + 1 + 1) #[.int .i64 0, .int .i64 0] 31 := (by refine Box.below ?_ hb3 (by simp <;> omega); repeat (with_reducible (first | assumption | apply Box.set0 | apply Box.set1 | (refine Box.far' ?_ ?_; omega) | (refine Box.new _ _ _ ?_; first | rfl | (simp; done)) | refine Box.alloc ?_ _)))
  have x3 : Box w3 (w.heap.size + 1 + 1 + 1) #[.int .i64 0, .int .i64 0] 65 := (by refine Box.below ?_ hb3 (by simp <;> omega); repeat (with_reducible (first | assumption | apply Box.set0 | apply Box.set1 | (refine Box.far' ?_ ?_; omega) | (refine Box.new _ _ _ ?_; first | rfl | (simp; done)) | refine Box.alloc ?_ _)))
  have x5 : Box w3 w1.heap.size #[.int .i64 A, .int .i64 0] 46 := (by refine Box.below ?_ hb3 (by simp <;> omega); repeat (with_reducible (first | assumption | apply Box.set0 | apply Box.set1 | (refine Box.far' ?_ ?_; omega) | (refine Box.new _ _ _ ?_; first | rfl | (simp; done)) | refine Box.alloc ?_ _)))
  have x6 : Box w3 (w1.heap.size + 1) #[.int .i64 0, .int .i64 0] 31 := (by refine Box.below ?_ hb3 (by simp <;> omega); repeat (with_reducible (first | assumption | apply Box.set0 | apply Box.set1 | (refine Box.far' ?_ ?_; omega) | (refine Box.new _ _ _ ?_; first | rfl | (simp; done)) | refine Box.alloc ?_ _)))
  obtain ⟨c1, c2, c3, c4⟩ := x0.two
  obtain ⟨d1, d2, d3, d4⟩ := x5.two
  go_wp2_with fail
  refine (iTapeBelow_any _ _ _ _).mono ?_
  rintro e w4 ⟨rfl, hb4⟩
  rw [eK.out, eM3.out]
  have hB4 : Below w.heap.size w w4 := Below.trans (b := _) (by repeat (with_reducible (first | assumption | exact Below.refl _ _ | refine Below.alloc ?_ (by first | omega | (simp; done) | (simp; omega)) _ | refine Below.setCell ?_ (by first | omega | (simp; done) | (simp; omega)) _ | refine Below.drew ?_ | refine below_drewN ?_ _))) (hb4.mono (by simp; omega))
  have hz4 := hb4.size
  simp only [World.size_alloc, World.size_setCell] at hz4
  have hl0 : w.heap.size < w4.heap.size := (by omega); have hl1 : w.heap.size + 1 < w4.heap.size := (by omega); have hl2 : w.heap.size + 1 + 1 < w4.heap.size := (by omega); have hl3 : w.heap.size + 1 + 1 + 1 < w4.heap.size := (by omega)
  have : w1.heap.size < w4.heap.size := by omega
  have : w1.heap.size + 1 < w4.heap.size := by omega
  have x0 : Box w4 w.heap.size #[.int .i64 s, .int .i64 M2] 65 := (by refine Box.below ?_ hb4 (by simp <;> omega); repeat (with_reducible (first | assumption | apply Box.set0 | apply Box.set1 | (refine Box.far' ?_ ?_; omega) | (refine Box.new _ _ _ ?_; first | rfl | (simp; done)) | refine Box.alloc ?_ _)))
  have x1 : Box w4 (w.heap.size + 1) #[.int .i64 0, .int .i64 0] 46 := (by refine Box.below ?_ hb4 (by simp <;> omega); repeat (with_reducible (first | assumption | apply Box.set0 | apply Box.set1 | (refine Box.far' ?_ ?_; omega) | (refine Box.new _ _ _ ?_; first | rfl | (simp; done)) | refine Box.alloc ?_ _)))
  have x2 : Box w4 (w.heap.size + 1 + 1) #[.int .i64 0, .int .i64 0] 31 := (by refine Box.below ?_ hb4 (by simp <;> omega); repeat (with_reducible (first | assumption | apply Box.set0 | apply Box.set1 | (refine Box.far' ?_ ?_; omega) | (refine Box.new _ _ _ ?_; first | rfl | (simp; done)) | refine Box.alloc ?_ _)))
  have x3 : Box w4 (w.heap.size + 1 + 1 + 1) #[.int .i64 0, .int .i64 0] 65 := (by refine Box.below ?_ hb4 (by simp <;> omega); repeat (with_reducible (first | assumption | apply Box.set0 | apply Box.set1 | (refine Box.far' ?_ ?_; omega) | (refine Box.new _ _ _ ?_; first | rfl | (simp; done)) | refine Box.alloc ?_ _)))
  have x5 : Box w4 w1.heap.size #[.int .i64 A, .int .i64 B] 46 := (by refine Box.below ?_ hb4 (by simp <;> omega); repeat (with_reducible (first | assumption | apply Box.set0 | apply Box.set1 | (refine Box.far' ?_ ?_; omega) | (refine Box.new _ _ _ ?_; first | rfl | (simp; done)) | refine Box.alloc ?_ _)))
  have x6 : Box w4 (w1.heap.size + 1) #[.int .i64 0, .int .i64 0] 31 := (by refine Box.below ?_ hb4 (by simp <;> omega); repeat (with_reducible (first | assumption | apply Box.set0 | apply Box.set1 | (refine Box.far' ?_ ?_; omega) | (refine Box.new _ _ _ ?_; first | rfl | (simp; done)) | refine Box.alloc ?_ _)))
  obtain ⟨c1, c2, c3, c4⟩ := x0.two
  obtain ⟨d1, d2, d3, d4⟩ := x5.two
  obtain ⟨g1, g2, g3, g4⟩ := x6.two
  obtain ⟨p0, p1, p2, p3⟩ := x1.two
  obtain ⟨e0, e1, e2, e3⟩ := x2.two
  obtain ⟨k0, k1, k2, k3⟩ := x3.two
  clear x0 x1 x2 x3 x5 x6 hb1 hb2 hb3 hb4
  go_wp2
  go_region
  go_wp2
  refine bodyPost_ret (v := .tuple #[.agg #[.int .i64 A, .int .i64 B], .agg #[.int .i64 K, .int .i64 A], .agg #[.int .i64 s, .int .i64 M3]]) ?_ rfl ⟨rfl, ?_⟩
  · simp [results, Try.results59, go_sem, p0, p1, p2, p3, e0, e1, e2, e3, k0, k1, k2, k3]
  · repeat (with_reducible (first | assumption | exact Below.refl _ _ | refine Below.alloc ?_ (by first | omega | (simp; done) | (simp; omega)) _ | refine Below.setCell ?_ (by first | omega | (simp; done) | (simp; omega)) _ | refine Below.drew ?_ | refine below_drewN ?_ _))
set_option maxHeartbeats 2000000 in
set_option maxRecDepth 100000 in
theorem iOtDeal_no (s a : Int) (w : World) (hd3 : dealOk s a = false) :
    Calls Try.prog 59 #[.agg #[.int .i64 s, .int .i64 a]] w fun e w' => e = .returned (.tuple #[.agg #[.int .i64 0, .int .i64 0], .agg #[.int .i64 0, .int .i64 0], .agg #[.int .i64 s, .int .i64 a]]) ∧ Below w.heap.size w w' := by
  go_enter Try.func59, Try.ntmps59
  go_wp2_with fail
  refine (iTapeOk_any _ _ _).mono ?_
  rintro e w1 ⟨rfl, hb1⟩
  have hB1 : Below w.heap.size w w1 := by repeat (first | exact Below.refl _ _ | refine Below.alloc ?_ (by first | omega | (simp; done) | (simp; omega)) _ | refine Below.setCell ?_ (by first | omega | (simp; done) | (simp; omega)) _ | refine Below.drew ?_ | refine below_drewN ?_ _ | refine Below.trans ?_ (hb30.mono (by first | omega | (simp; done) | (simp; omega))) | refine Below.trans ?_ (hb29.mono (by first | omega | (simp; done) | (simp; omega))) | refine Below.trans ?_ (hb28.mono (by first | omega | (simp; done) | (simp; omega))) | refine Below.trans ?_ (hb27.mono (by first | omega | (simp; done) | (simp; omega))) | refine Below.trans ?_ (hb26.mono (by first | omega | (simp; done) | (simp; omega))) | refine Below.trans ?_ (hb25.mono (by first | omega | (simp; done) | (simp; omega))) | refine Below.trans ?_ (hb24.mono (by first | omega | (simp; done) | (simp; omega))) | refine Below.trans ?_ (hb23.mono (by first | omega | (simp; done) | (simp; omega))) | refine Below.trans ?_ (hb22.mono (by first | omega | (simp; done) | (simp; omega))) | refine Below.trans ?_ (hb21.mono (by first | omega | (simp; done) | (simp; omega))) | refine Below.trans ?_ (hb20.mono (by first | omega | (simp; done) | (simp; omega))) | refine Below.trans ?_ (hb19.mono (by first | omega | (simp; done) | (simp; omega))) | refine Below.trans ?_ (hb18.mono (by first | omega | (simp; done) | (simp; omega))) | refine Below.trans ?_ (hb17.mono (by first | omega | (simp; done) | (simp; omega))) | refine Below.trans ?_ (hb16.mono (by first | omega | (simp; done) | (simp; omega))) | refine Below.trans ?_ (hb15.mono (by first | omega | (simp; done) | (simp; omega))) | refine Below.trans ?_ (hb14.mono (by first | omega | (simp; done) | (simp; omega))) | refine Below.trans ?_ (hb13.mono (by first | omega | (simp; done) | (simp; omega))) | refine Below.trans ?_ (hb12.mono (by first | omega | (simp; done) | (simp; omega))) | refine Below.trans ?_ (hb11.mono (by first | omega | (simp; done) | (simp; omega))) | refine Below.trans ?_ (hb10.mono (by first | omega | (simp; done) | (simp; omega))) | refine Below.trans ?_ (hb9.mono (by first | omega | (simp; done) | (simp; omega))) | refine Below.trans ?_ (hb8.mono (by first | omega | (simp; done) | (simp; omega))) | refine Below.trans ?_ (hb7.mono (by first | omega | (simp; done) | (simp; omega))) | refine Below.trans ?_ (hb6.mono (by first | omega | (simp; done) | (simp; omega))) | refine Below.trans ?_ (hb5.mono (by first | omega | (simp; done) | (simp; omega))) | refine Below.trans ?_ (hb4.mono (by first | omega | (simp; done) | (simp; omega))) | refine Below.trans ?_ (hb3.mono (by first | omega | (simp; done) | (simp; omega))) | refine Below.trans ?_ (hb2.mono (by first | omega | (simp; done) | (simp; omega))) | refine Below.trans ?_ (hb1.mono (by first | omega | (simp; done) | (simp; omega))))
  have hz1 := hb1.size
  simp only [World.size_alloc] at hz1
  have x0 : Box w1 w.heap.size #[.int .i64 s, .int .i64 a] 65 := (by refine Box.below ?_ hb1 (by simp <;> omega); repeat (first | assumption | exact Box.new _ _ _ (by simp; done) | exact Box.new _ _ _ rfl | refine Box.alloc ?_ _))
  have x1 : Box w1 (w.heap.size + 1) #[.int .i64 0, .int .i64 0] 46 := (by refine Box.below ?_ hb1 (by simp <;> omega); repeat (first | assumption | exact Box.new _ _ _ (by simp; done) | exact Box.new _ _ _ rfl | refine Box.alloc ?_ _))
  have x2 : Box w1 (w.heap.size + 1 + 1) #[.int .i64 0, .int .i64 0] 31 := (by refine Box.below ?_ hb1 (by simp <;> omega); repeat (first | assumption | exact Box.new _ _ _ (by simp; done) | exact Box.new _ _ _ rfl | refine Box.alloc ?_ _))
  have x3 : Box w1 (w.heap.size + 1 + 1 + 1) #[.int .i64 0, .int .i64 0] 65 := (by refine Box.below ?_ hb1 (by simp <;> omega); repeat (first | assumption | exact Box.new _ _ _ (by simp; done) | exact Box.new _ _ _ rfl | refine Box.alloc ?_ _))
  obtain ⟨c0, c1, _, _⟩ := x0.two
  have hl0 : w.heap.size < w1.heap.size := (by omega); have hl1 : w.heap.size + 1 < w1.heap.size := (by omega); have hl2 : w.heap.size + 1 + 1 < w1.heap.size := (by omega); have hl3 : w.heap.size + 1 + 1 + 1 < w1.heap.size := (by omega)
  obtain ⟨d0, d1, d2, d3⟩ := x1.two
  obtain ⟨e0, e1, e2, e3⟩ := x2.two
  obtain ⟨g0, g1, g2, g3⟩ := x3.two
  clear x0 x1 x2 x3 hb1
  by_cases ht : tapeOk s a = true
  · have h9 : (900000 : Int) < a := by simp [dealOk, ht] at hd3; omega
    go_wp2
    go_region
    go_wp2
    refine bodyPost_ret (v := .tuple #[.agg #[.int .i64 0, .int .i64 0], .agg #[.int .i64 0, .int .i64 0], .agg #[.int .i64 s, .int .i64 a]]) ?_ rfl ⟨rfl, ?_⟩
    · simp [results, Try.results59, go_sem, d0, d1, d2, d3, e0, e1, e2, e3, g0, g1, g2, g3]
    · repeat (with_reducible (first | assumption | exact Below.refl _ _ | refine Below.alloc ?_ (by first | omega | (simp; done) | (simp; omega)) _ | refine Below.setCell ?_ (by first | omega | (simp; done) | (simp; omega)) _ | refine Below.drew ?_ | refine below_drewN ?_ _))
  · have ht2 : tapeOk s a = false := by simpa using ht
    clear ht
    go_wp2
    go_region
    go_wp2
    refine bodyPost_ret (v := .tuple #[.agg #[.int .i64 0, .int .i64 0], .agg #[.int .i64 0, .int .i64 0], .agg #[.int .i64 s, .int .i64 a]]) ?_ rfl ⟨rfl, ?_⟩
    · simp [results, Try.results59, go_sem, d0, d1, d2, d3, e0, e1, e2, e3, g0, g1, g2, g3]
    · repeat (with_reducible (first | assumption | exact Below.refl _ _ | refine Below.alloc ?_ (by first | omega | (simp; done) | (simp; omega)) _ | refine Below.setCell ?_ (by first | omega | (simp; done) | (simp; omega)) _ | refine Below.drew ?_ | refine below_drewN ?_ _))
theorem iOtDeal_any (s a : Int) (w : World) :
    Calls Try.prog 59 #[.agg #[.int .i64 s, .int .i64 a]] w fun e w' => e = .returned (dealV s a) ∧ Below w.heap.size w w' := by
  by_cases hd : dealOk s a = true
  · cases hk : (tapeB s (tapeM s (tapeM s a 65536) 65536) 2 == 1) with
    | true => rw [deal_1 hd hk]; exact iOtDeal_yes1 s a w _ _ _ _ _ _ hd rfl rfl rfl rfl rfl rfl hk
    | false => rw [deal_0 hd hk]; exact iOtDeal_yes0 s a w _ _ _ _ _ _ hd rfl rfl rfl rfl rfl rfl hk
  · have hd3 : dealOk s a = false := by simpa using hd
    rw [deal_no hd3]
    exact iOtDeal_no s a w hd3
end Go.Proofs.Ytakmgghjpompoaa

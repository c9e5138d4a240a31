/- Contracts of ExtRows, the program's and the reference's. -/
import Derived.Test.YtakmgghjpompoaaTapeL
import Derived.Test.YtakmgghjpompoaaOtDeal
import Derived.Test.YtakmgghjpompoaaObj
namespace Go.Proofs.Ytakmgghjpompoaa
set_option linter.unusedSimpArgs false
set_option linter.unusedVariables false
open Go.RowKit
def extRowsOk (s a n : Int) : Bool := inB n 0 32 && dealOk s a
def extRowsL (s a n : Int) : List Int := if extRowsOk s a n then tapeL s a 256 n else []
def extRowsN (s a n : Int) : Int := if extRowsOk s a n then tapeLN s a 256 n else a
theorem extRows_len (s a n : Int) : (extRowsL s a n).length ≤ 1000 := by
  unfold extRowsL; split
  · exact tapeL_len _ _ _ _
  · simp
theorem extRows_yes {s a n : Int} (h : extRowsOk s a n = true) : extRowsL s a n = tapeL s a 256 n ∧ extRowsN s a n = tapeLN s a 256 n := by simp [extRowsL, extRowsN, h]
theorem extRows_no {s a n : Int} (h : extRowsOk s a n = false) : extRowsL s a n = [] ∧ extRowsN s a n = a := by simp [extRowsL, extRowsN, h]
set_option maxHeartbeats 1000000 in
set_option maxRecDepth 100000 in
theorem sExtRows_V {w : World} (s a n : Int) :
    Calls Try.prog 64 #[.agg #[.int .i64 s, .int .i64 a], .int .i64 n] w fun e w' => ∃ v, e = .returned (.tuple #[v, .agg #[.int .i64 s, .int .i64 (extRowsN s a n)]]) ∧ OwnL w' w.heap.size w'.heap.size [(v, .ints (extRowsL s a n))] ∧ Below w.heap.size w w' := by
  by_cases h1 : inB n 0 32 = true
  · have h1k := Lib.hid h1
    go_enter Try.func64, Try.ntmps64
    go_wp2_with (first | (go_at_call 69; refine (l01In_any _ _ _ _).mono ?_; rintro e w' ⟨rfl, rfl⟩) | (go_at_call 70; refine (within_any _ _ _ _).mono ?_; rintro e w' ⟨rfl, rfl⟩))
    refine (l06Tape_any _ _ _).mono ?_
    rintro e w1 ⟨rfl, hb1⟩
    have hx : Box w1 w.heap.size #[.int .i64 s, .int .i64 a] 65 := (by refine Box.below ?_ hb1 (by simp <;> omega); repeat (first | assumption | exact Box.new _ _ _ (by simp; done) | exact Box.new _ _ _ rfl | refine Box.alloc ?_ _))
    have hy : Box w1 (w.heap.size + 1) #[.int .i64 0, .int .i64 0] 65 := (by refine Box.below ?_ hb1 (by simp <;> omega); repeat (first | assumption | exact Box.new _ _ _ (by simp; done) | exact Box.new _ _ _ rfl | refine Box.alloc ?_ _))
    have hz1 := hb1.size
    simp only [World.size_alloc] at hz1
    have hB1 : Below w.heap.size w w1 := Below.trans (b := _) (by repeat (with_reducible (first | assumption | exact Below.refl _ _ | refine Below.alloc ?_ (by first | omega | (simp; done) | (simp; omega)) _ | refine Below.setCell ?_ (by first | omega | (simp; done) | (simp; omega)) _ | refine Below.drew ?_ | refine below_drewN ?_ _))) (hb1.mono (by simp <;> omega))
    obtain ⟨c0, c1, f0, f1⟩ := hx.two
    obtain ⟨d0, d1, g0, g1⟩ := hy.two
    by_cases hd : dealOk s a = true
    · obtain ⟨hL, hN⟩ := extRows_yes (s := s) (a := a) (n := n) (by simp [extRowsOk, h1, hd])
      have HL := Lib.hid hL
      have HN := Lib.hid hN
      clear hL hN
      have hd' : (tapeOk s a && decide (a ≤ 900000)) = true := hd
      obtain ⟨hd1, hd2⟩ := and_true_of hd
      have hd3 : ¬ 900000 < a := by have := of_decide_eq_true hd2; omega
      go_wp2_with fail
      refine (sTapeList_R s a 256 n _).mono ?_
      rintro e w2 ⟨v, rfl, hn, hb2⟩
      have hz2 := hb2.size
      have hB2 : Below w.heap.size w w2 := hB1.trans (hb2.mono (by omega))
      have hy : Box w2 (w.heap.size + 1) #[.int .i64 0, .int .i64 0] 65 := hy.below hb2 (by omega)
      clear d0 d1 g0 g1 c0 c1 f0 f1
      obtain ⟨d0, d1, g0, g1⟩ := hy.two
      go_wp2
      refine bodyPost_ret (v := .tuple #[v, .agg #[.int .i64 s, .int .i64 (tapeLN s a 256 n)]]) (by simp [results, Try.results64, go_sem, d0, d1, g0, g1]) rfl ⟨v, by rw [HN.out], ?_, ?_⟩
      · rw [HL.out]
        exact OwnL.widen (((hn.ownL hb2.size).setBox (by omega)).setBox (by omega)) (by omega)
      · repeat (with_reducible (first | assumption | exact Below.refl _ _ | refine Below.alloc ?_ (by first | omega | (simp; done) | (simp; omega)) _ | refine Below.setCell ?_ (by first | omega | (simp; done) | (simp; omega)) _ | refine Below.drew ?_ | refine below_drewN ?_ _))
    · have hd' : dealOk s a = false := by simpa using hd
      have hd2 : (tapeOk s a && decide (a ≤ 900000)) = false := hd'
      obtain ⟨hL, hN⟩ := extRows_no (s := s) (a := a) (n := n) (by simp [extRowsOk, hd'])
      have HL := Lib.hid hL
      have HN := Lib.hid hN
      clear hL hN hd
      have hl0 : w.heap.size < w1.heap.size := (by omega); have hl1 : w.heap.size + 1 < w1.heap.size := (by omega)
      rcases (show tapeOk s a = false ∨ (tapeOk s a = true ∧ 900000 < a) by
        cases ht : tapeOk s a with
        | false => exact .inl rfl
        | true => exact .inr ⟨rfl, by simp [dealOk, ht] at hd'; omega⟩) with ht | ⟨ht, h9⟩
      · skip
        go_wp2
        go_region
        go_wp2
        refine bodyPost_ret (v := .tuple #[.slice (some ⟨w1.heap.size, 0, none⟩) 0 0, .agg #[.int .i64 s, .int .i64 a]]) (by simp [results, Try.results64, go_sem, d0, d1, g0, g1, hl0, hl1]) rfl ⟨_, by rw [HN.out], ?_, ?_⟩
        · rw [HL.out]
          refine OwnL.one (d := .ints []) ?_ ?_
          · exact (show OwnD _ _ _ (.ints []) from Own.empty (base := w.heap.size) (by simp <;> omega) (by simp))
          · simp; omega
        · repeat (with_reducible (first | assumption | exact Below.refl _ _ | refine Below.alloc ?_ (by first | omega | (simp; done) | (simp; omega)) _ | refine Below.setCell ?_ (by first | omega | (simp; done) | (simp; omega)) _ | refine Below.drew ?_ | refine below_drewN ?_ _))
      · have h9' : ¬ a ≤ 900000 := by omega
        clear ht h9 h9'
        go_wp2
        go_region
        go_wp2
        refine bodyPost_ret (v := .tuple #[.slice (some ⟨w1.heap.size, 0, none⟩) 0 0, .agg #[.int .i64 s, .int .i64 a]]) (by simp [results, Try.results64, go_sem, d0, d1, g0, g1, hl0, hl1]) rfl ⟨_, by rw [HN.out], ?_, ?_⟩
        · rw [HL.out]
          refine OwnL.one (d := .ints []) ?_ ?_
          · exact (show OwnD _ _ _ (.ints []) from Own.empty (base := w.heap.size) (by simp <;> omega) (by simp))
          · simp; omega
        · repeat (with_reducible (first | assumption | exact Below.refl _ _ | refine Below.alloc ?_ (by first | omega | (simp; done) | (simp; omega)) _ | refine Below.setCell ?_ (by first | omega | (simp; done) | (simp; omega)) _ | refine Below.drew ?_ | refine below_drewN ?_ _))
  · have h1' : inB n 0 32 = false := by simpa using h1
    obtain ⟨hL, hN⟩ := extRows_no (s := s) (a := a) (n := n) (by simp [extRowsOk, h1'])
    have HL := Lib.hid hL
    have HN := Lib.hid hN
    clear hL hN h1
    go_enter Try.func64, Try.ntmps64
    go_wp2_with (first | (go_at_call 69; refine (l01In_any _ _ _ _).mono ?_; rintro e w' ⟨rfl, rfl⟩) | (go_at_call 70; refine (within_any _ _ _ _).mono ?_; rintro e w' ⟨rfl, rfl⟩))
    go_region
    go_wp2
    refine bodyPost_ret (v := .tuple #[.slice (some ⟨w.heap.size + 1 + 1, 0, none⟩) 0 0, .agg #[.int .i64 s, .int .i64 a]]) (by simp [results, Try.results64, go_sem]) rfl ⟨_, by rw [HN.out], ?_, ?_⟩
    · rw [HL.out]
      refine OwnL.one (d := .ints []) ?_ ?_
      · exact (show OwnD _ _ _ (.ints []) from Own.empty (base := w.heap.size) (by simp <;> omega) (by simp))
      · simp; omega
    · repeat (first | exact Below.refl _ _ | refine Below.alloc ?_ (by first | omega | (simp; done) | (simp; omega)) _ | refine Below.setCell ?_ (by first | omega | (simp; done) | (simp; omega)) _ | refine Below.drew ?_ | refine below_drewN ?_ _ | refine Below.trans ?_ (hb30.mono (by first | omega | (simp; done) | (simp; omega))) | refine Below.trans ?_ (hb29.mono (by first | omega | (simp; done) | (simp; omega))) | refine Below.trans ?_ (hb28.mono (by first | omega | (simp; done) | (simp; omega))) | refine Below.trans ?_ (hb27.mono (by first | omega | (simp; done) | (simp; omega))) | refine Below.trans ?_ (hb26.mono (by first | omega | (simp; done) | (simp; omega))) | refine Below.trans ?_ (hb25.mono (by first | omega | (simp; done) | (simp; omega))) | refine Below.trans ?_ (hb24.mono (by first | omega | (simp; done) | (simp; omega))) | refine Below.trans ?_ (hb23.mono (by first | omega | (simp; done) | (simp; omega))) | refine Below.trans ?_ (hb22.mono (by first | omega | (simp; done) | (simp; omega))) | refine Below.trans ?_ (hb21.mono (by first | omega | (simp; done) | (simp; omega))) | refine Below.trans ?_ (hb20.mono (by first | omega | (simp; done) | (simp; omega))) | refine Below.trans ?_ (hb19.mono (by first | omega | (simp; done) | (simp; omega))) | refine Below.trans ?_ (hb18.mono (by first | omega | (simp; done) | (simp; omega))) | refine Below.trans ?_ (hb17.mono (by first | omega | (simp; done) | (simp; omega))) | refine Below.trans ?_ (hb16.mono (by first | omega | (simp; done) | (simp; omega))) | refine Below.trans ?_ (hb15.mono (by first | omega | (simp; done) | (simp; omega))) | refine Below.trans ?_ (hb14.mono (by first | omega | (simp; done) | (simp; omega))) | refine Below.trans ?_ (hb13.mono (by first | omega | (simp; done) | (simp; omega))) | refine Below.trans ?_ (hb12.mono (by first | omega | (simp; done) | (simp; omega))) | refine Below.trans ?_ (hb11.mono (by first | omega | (simp; done) | (simp; omega))) | refine Below.trans ?_ (hb10.mono (by first | omega | (simp; done) | (simp; omega))) | refine Below.trans ?_ (hb9.mono (by first | omega | (simp; done) | (simp; omega))) | refine Below.trans ?_ (hb8.mono (by first | omega | (simp; done) | (simp; omega))) | refine Below.trans ?_ (hb7.mono (by first | omega | (simp; done) | (simp; omega))) | refine Below.trans ?_ (hb6.mono (by first | omega | (simp; done) | (simp; omega))) | refine Below.trans ?_ (hb5.mono (by first | omega | (simp; done) | (simp; omega))) | refine Below.trans ?_ (hb4.mono (by first | omega | (simp; done) | (simp; omega))) | refine Below.trans ?_ (hb3.mono (by first | omega | (simp; done) | (simp; omega))) | refine Below.trans ?_ (hb2.mono (by first | omega | (simp; done) | (simp; omega))) | refine Below.trans ?_ (hb1.mono (by first | omega | (simp; done) | (simp; omega))))
theorem sExtRows_L {w : World} (s a n : Int) :
    Calls Try.prog 64 #[.agg #[.int .i64 s, .int .i64 a], .int .i64 n] w fun e w' => ∃ A m c, e = .returned (.tuple #[.slice A m c, .agg #[.int .i64 s, .int .i64 (extRowsN s a n)]]) ∧ OwnL w' w.heap.size w'.heap.size [(.slice A m c, .ints (extRowsL s a n))] ∧ Below w.heap.size w w' := by
  refine (sExtRows_V s a n).mono ?_
  rintro e w' ⟨v, rfl, h1, h2⟩
  obtain ⟨A, m, c, rfl⟩ := h1.form
  exact ⟨A, m, c, rfl, h1, h2⟩
set_option maxHeartbeats 1000000 in
set_option maxRecDepth 100000 in
theorem iExtRows_V {w : World} (s a n : Int) :
    Calls Try.prog 65 #[.agg #[.int .i64 s, .int .i64 a], .int .i64 n] w fun e w' => ∃ v, e = .returned (.tuple #[v, .agg #[.int .i64 s, .int .i64 (extRowsN s a n)]]) ∧ OwnL w' w.heap.size w'.heap.size [(v, .ints (extRowsL s a n))] ∧ Below w.heap.size w w' := by
  by_cases h1 : inB n 0 32 = true
  · have h1k := Lib.hid h1
    go_enter Try.func65, Try.ntmps65
    go_wp2_with (first | (go_at_call 69; refine (l01In_any _ _ _ _).mono ?_; rintro e w' ⟨rfl, rfl⟩) | (go_at_call 70; refine (within_any _ _ _ _).mono ?_; rintro e w' ⟨rfl, rfl⟩))
    refine (iTapeOk_any _ _ _).mono ?_
    rintro e w1 ⟨rfl, hb1⟩
    have hx : Box w1 w.heap.size #[.int .i64 s, .int .i64 a] 65 := (by refine Box.below ?_ hb1 (by simp <;> omega); repeat (first | assumption | exact Box.new _ _ _ (by simp; done) | exact Box.new _ _ _ rfl | refine Box.alloc ?_ _))
    have hy : Box w1 (w.heap.size + 1) #[.int .i64 0, .int .i64 0] 65 := (by refine Box.below ?_ hb1 (by simp <;> omega); repeat (first | assumption | exact Box.new _ _ _ (by simp; done) | exact Box.new _ _ _ rfl | refine Box.alloc ?_ _))
    have hz1 := hb1.size
    simp only [World.size_alloc] at hz1
    have hB1 : Below w.heap.size w w1 := Below.trans (b := _) (by repeat (with_reducible (first | assumption | exact Below.refl _ _ | refine Below.alloc ?_ (by first | omega | (simp; done) | (simp; omega)) _ | refine Below.setCell ?_ (by first | omega | (simp; done) | (simp; omega)) _ | refine Below.drew ?_ | refine below_drewN ?_ _))) (hb1.mono (by simp <;> omega))
    obtain ⟨c0, c1, f0, f1⟩ := hx.two
    obtain ⟨d0, d1, g0, g1⟩ := hy.two
    by_cases hd : dealOk s a = true
    · obtain ⟨hL, hN⟩ := extRows_yes (s := s) (a := a) (n := n) (by simp [extRowsOk, h1, hd])
      have HL := Lib.hid hL
      have HN := Lib.hid hN
      clear hL hN
      have hd' : (tapeOk s a && decide (a ≤ 900000)) = true := hd
      obtain ⟨hd1, hd2⟩ := and_true_of hd
      have hd3 : ¬ 900000 < a := by have := of_decide_eq_true hd2; omega
      go_wp2_with fail
      refine (iTapeList_R s a 256 n _).mono ?_
      rintro e w2 ⟨v, rfl, hn, hb2⟩
      have hz2 := hb2.size
      have hB2 : Below w.heap.size w w2 := hB1.trans (hb2.mono (by omega))
      have hy : Box w2 (w.heap.size + 1) #[.int .i64 0, .int .i64 0] 65 := hy.below hb2 (by omega)
      clear d0 d1 g0 g1 c0 c1 f0 f1
      obtain ⟨d0, d1, g0, g1⟩ := hy.two
      go_wp2
      refine bodyPost_ret (v := .tuple #[v, .agg #[.int .i64 s, .int .i64 (tapeLN s a 256 n)]]) (by simp [results, Try.results65, go_sem, d0, d1, g0, g1]) rfl ⟨v, by rw [HN.out], ?_, ?_⟩
      · rw [HL.out]
        exact OwnL.widen (((hn.ownL hb2.size).setBox (by omega)).setBox (by omega)) (by omega)
      · repeat (with_reducible (first | assumption | exact Below.refl _ _ | refine Below.alloc ?_ (by first | omega | (simp; done) | (simp; omega)) _ | refine Below.setCell ?_ (by first | omega | (simp; done) | (simp; omega)) _ | refine Below.drew ?_ | refine below_drewN ?_ _))
    · have hd' : dealOk s a = false := by simpa using hd
      have hd2 : (tapeOk s a && decide (a ≤ 900000)) = false := hd'
      obtain ⟨hL, hN⟩ := extRows_no (s := s) (a := a) (n := n) (by simp [extRowsOk, hd'])
      have HL := Lib.hid hL
      have HN := Lib.hid hN
      clear hL hN hd
      have hl0 : w.heap.size < w1.heap.size := (by omega); have hl1 : w.heap.size + 1 < w1.heap.size := (by omega)
      rcases (show tapeOk s a = false ∨ (tapeOk s a = true ∧ 900000 < a) by
        cases ht : tapeOk s a with
        | false => exact .inl rfl
        | true => exact .inr ⟨rfl, by simp [dealOk, ht] at hd'; omega⟩) with ht | ⟨ht, h9⟩
      · skip
        go_wp2
        go_region
        go_wp2
        refine bodyPost_ret (v := .tuple #[.slice none 0 0, .agg #[.int .i64 s, .int .i64 a]]) (by simp [results, Try.results65, go_sem, d0, d1, g0, g1, hl0, hl1]) rfl ⟨_, by rw [HN.out], ?_, ?_⟩
        · rw [HL.out]
          refine OwnL.one (d := .ints []) ?_ ?_
          · exact World.ownsRow_nil _ _ _ _
          · simp; omega
        · repeat (with_reducible (first | assumption | exact Below.refl _ _ | refine Below.alloc ?_ (by first | omega | (simp; done) | (simp; omega)) _ | refine Below.setCell ?_ (by first | omega | (simp; done) | (simp; omega)) _ | refine Below.drew ?_ | refine below_drewN ?_ _))
      · have h9' : ¬ a ≤ 900000 := by omega
        skip
        go_wp2
        go_region
        go_wp2
        refine bodyPost_ret (v := .tuple #[.slice none 0 0, .agg #[.int .i64 s, .int .i64 a]]) (by simp [results, Try.results65, go_sem, d0, d1, g0, g1, hl0, hl1]) rfl ⟨_, by rw [HN.out], ?_, ?_⟩
        · rw [HL.out]
          refine OwnL.one (d := .ints []) ?_ ?_
          · exact World.ownsRow_nil _ _ _ _
          · simp; omega
        · repeat (with_reducible (first | assumption | exact Below.refl _ _ | refine Below.alloc ?_ (by first | omega | (simp; done) | (simp; omega)) _ | refine Below.setCell ?_ (by first | omega | (simp; done) | (simp; omega)) _ | refine Below.drew ?_ | refine below_drewN ?_ _))
  · have h1' : inB n 0 32 = false := by simpa using h1
    obtain ⟨hL, hN⟩ := extRows_no (s := s) (a := a) (n := n) (by simp [extRowsOk, h1'])
    have HL := Lib.hid hL
    have HN := Lib.hid hN
    clear hL hN h1
    go_enter Try.func65, Try.ntmps65
    go_wp2_with (first | (go_at_call 69; refine (l01In_any _ _ _ _).mono ?_; rintro e w' ⟨rfl, rfl⟩) | (go_at_call 70; refine (within_any _ _ _ _).mono ?_; rintro e w' ⟨rfl, rfl⟩))
    go_region
    go_wp2
    refine bodyPost_ret (v := .tuple #[.slice none 0 0, .agg #[.int .i64 s, .int .i64 a]]) (by simp [results, Try.results65, go_sem]) rfl ⟨_, by rw [HN.out], ?_, ?_⟩
    · rw [HL.out]
      refine OwnL.one (d := .ints []) ?_ ?_
      · exact World.ownsRow_nil _ _ _ _
      · simp; omega
    · repeat (first | exact Below.refl _ _ | refine Below.alloc ?_ (by first | omega | (simp; done) | (simp; omega)) _ | refine Below.setCell ?_ (by first | omega | (simp; done) | (simp; omega)) _ | refine Below.drew ?_ | refine below_drewN ?_ _ | refine Below.trans ?_ (hb30.mono (by first | omega | (simp; done) | (simp; omega))) | refine Below.trans ?_ (hb29.mono (by first | omega | (simp; done) | (simp; omega))) | refine Below.trans ?_ (hb28.mono (by first | omega | (simp; done) | (simp; omega))) | refine Below.trans ?_ (hb27.mono (by first | omega | (simp; done) | (simp; omega))) | refine Below.trans ?_ (hb26.mono (by first | omega | (simp; done) | (simp; omega))) | refine Below.trans ?_ (hb25.mono (by first | omega | (simp; done) | (simp; omega))) | refine Below.trans ?_ (hb24.mono (by first | omega | (simp; done) | (simp; omega))) | refine Below.trans ?_ (hb23.mono (by first | omega | (simp; done) | (simp; omega))) | refine Below.trans ?_ (hb22.mono (by first | omega | (simp; done) | (simp; omega))) | refine Below.trans ?_ (hb21.mono (by first | omega | (simp; done) | (simp; omega))) | refine Below.trans ?_ (hb20.mono (by first | omega | (simp; done) | (simp; omega))) | refine Below.trans ?_ (hb19.mono (by first | omega | (simp; done) | (simp; omega))) | refine Below.trans ?_ (hb18.mono (by first | omega | (simp; done) | (simp; omega))) | refine Below.trans ?_ (hb17.mono (by first | omega | (simp; done) | (simp; omega))) | refine Below.trans ?_ (hb16.mono (by first | omega | (simp; done) | (simp; omega))) | refine Below.trans ?_ (hb15.mono (by first | omega | (simp; done) | (simp; omega))) | refine Below.trans ?_ (hb14.mono (by first | omega | (simp; done) | (simp; omega))) | refine Below.trans ?_ (hb13.mono (by first | omega | (simp; done) | (simp; omega))) | refine Below.trans ?_ (hb12.mono (by first | omega | (simp; done) | (simp; omega))) | refine Below.trans ?_ (hb11.mono (by first | omega | (simp; done) | (simp; omega))) | refine Below.trans ?_ (hb10.mono (by first | omega | (simp; done) | (simp; omega))) | refine Below.trans ?_ (hb9.mono (by first | omega | (simp; done) | (simp; omega))) | refine Below.trans ?_ (hb8.mono (by first | omega | (simp; done) | (simp; omega))) | refine Below.trans ?_ (hb7.mono (by first | omega | (simp; done) | (simp; omega))) | refine Below.trans ?_ (hb6.mono (by first | omega | (simp; done) | (simp; omega))) | refine Below.trans ?_ (hb5.mono (by first | omega | (simp; done) | (simp; omega))) | refine Below.trans ?_ (hb4.mono (by first | omega | (simp; done) | (simp; omega))) | refine Below.trans ?_ (hb3.mono (by first | omega | (simp; done) | (simp; omega))) | refine Below.trans ?_ (hb2.mono (by first | omega | (simp; done) | (simp; omega))) | refine Below.trans ?_ (hb1.mono (by first | omega | (simp; done) | (simp; omega))))
theorem iExtRows_L {w : World} (s a n : Int) :
    Calls Try.prog 65 #[.agg #[.int .i64 s, .int .i64 a], .int .i64 n] w fun e w' => ∃ A m c, e = .returned (.tuple #[.slice A m c, .agg #[.int .i64 s, .int .i64 (extRowsN s a n)]]) ∧ OwnL w' w.heap.size w'.heap.size [(.slice A m c, .ints (extRowsL s a n))] ∧ Below w.heap.size w w' := by
  refine (iExtRows_V s a n).mono ?_
  rintro e w' ⟨v, rfl, h1, h2⟩
  obtain ⟨A, m, c, rfl⟩ := h1.form
  exact ⟨A, m, c, rfl, h1, h2⟩
end Go.Proofs.Ytakmgghjpompoaa

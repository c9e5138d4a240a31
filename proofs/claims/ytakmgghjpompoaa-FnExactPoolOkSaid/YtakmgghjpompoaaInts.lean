/- Contracts of the functions that only compute with numbers. -/
import Derived.Test.YtakmgghjpompoaaBase
namespace Go.Proofs.Ytakmgghjpompoaa
open Go.RowKit

theorem within_any (a b c : Int) (w : World) :
    Calls Try.prog 70 #[.int .i64 a, .int .i64 b, .int .i64 c] w fun e w' => e = .returned (.bool (inB a b c)) ∧ w = w' := by
  go_enter Try.func70, Try.ntmps70
  go_wp2
  all_goals (go_ret; exact ⟨ret_bool (by simp [inB]; omega), rfl⟩)
theorem l01In_any (a b c : Int) (w : World) :
    Calls Try.prog 69 #[.int .i64 a, .int .i64 b, .int .i64 c] w fun e w' => e = .returned (.bool (inB a b c)) ∧ w = w' := by
  go_enter Try.func69, Try.ntmps69
  go_wp2
  all_goals (go_ret; exact ⟨ret_bool (by simp [inB]; omega), rfl⟩)
/-- A pool is in order. -/
def poolOk (s n b : Int) : Bool := inB s 1 1000 && inB b 0 s && inB n 0 b
theorem spoolOk_any (s n b : Int) (w : World) :
    Calls Try.prog 23 #[.agg #[.int .i64 s, .int .i64 n, .int .i64 b]] w fun e w' => e = .returned (.bool (poolOk s n b)) ∧ Below w.heap.size w w' := by
  go_enter Try.func23, Try.ntmps23
  go_wp2_with (go_at_call 69; refine (l01In_any _ _ _ _).mono ?_; rintro e w' ⟨rfl, rfl⟩)
  all_goals (go_ret; refine ⟨ret_bool (by simp_all [poolOk]), ?_⟩; repeat (first | exact Below.refl _ _ | refine Below.alloc ?_ (by first | omega | (simp; done) | (simp; omega)) _ | refine Below.setCell ?_ (by first | omega | (simp; done) | (simp; omega)) _ | refine Below.drew ?_ | refine Below.trans ?_ (hb9.mono (by first | omega | (simp; done) | (simp; omega))) | refine Below.trans ?_ (hb8.mono (by first | omega | (simp; done) | (simp; omega))) | refine Below.trans ?_ (hb7.mono (by first | omega | (simp; done) | (simp; omega))) | refine Below.trans ?_ (hb6.mono (by first | omega | (simp; done) | (simp; omega))) | refine Below.trans ?_ (hb5.mono (by first | omega | (simp; done) | (simp; omega))) | refine Below.trans ?_ (hb4.mono (by first | omega | (simp; done) | (simp; omega))) | refine Below.trans ?_ (hb3.mono (by first | omega | (simp; done) | (simp; omega))) | refine Below.trans ?_ (hb2.mono (by first | omega | (simp; done) | (simp; omega))) | refine Below.trans ?_ (hb1.mono (by first | omega | (simp; done) | (simp; omega)))))
theorem ipoolOk_any (s n b : Int) (w : World) :
    Calls Try.prog 25 #[.agg #[.int .i64 s, .int .i64 n, .int .i64 b]] w fun e w' => e = .returned (.bool (poolOk s n b)) ∧ Below w.heap.size w w' := by
  go_enter Try.func25, Try.ntmps25
  go_wp2_with (go_at_call 70; refine (within_any _ _ _ _).mono ?_; rintro e w' ⟨rfl, rfl⟩)
  all_goals (go_ret; refine ⟨ret_bool (by simp_all [poolOk, inB]; try omega), ?_⟩; repeat (first | exact Below.refl _ _ | refine Below.alloc ?_ (by first | omega | (simp; done) | (simp; omega)) _ | refine Below.setCell ?_ (by first | omega | (simp; done) | (simp; omega)) _ | refine Below.drew ?_ | refine Below.trans ?_ (hb9.mono (by first | omega | (simp; done) | (simp; omega))) | refine Below.trans ?_ (hb8.mono (by first | omega | (simp; done) | (simp; omega))) | refine Below.trans ?_ (hb7.mono (by first | omega | (simp; done) | (simp; omega))) | refine Below.trans ?_ (hb6.mono (by first | omega | (simp; done) | (simp; omega))) | refine Below.trans ?_ (hb5.mono (by first | omega | (simp; done) | (simp; omega))) | refine Below.trans ?_ (hb4.mono (by first | omega | (simp; done) | (simp; omega))) | refine Below.trans ?_ (hb3.mono (by first | omega | (simp; done) | (simp; omega))) | refine Below.trans ?_ (hb2.mono (by first | omega | (simp; done) | (simp; omega))) | refine Below.trans ?_ (hb1.mono (by first | omega | (simp; done) | (simp; omega)))))
theorem toPool_any (s n b : Int) (w : World) :
    Calls Try.prog 24 #[.agg #[.int .i64 s, .int .i64 n, .int .i64 b]] w fun e w' => e = .returned (.agg #[.int .i64 s, .int .i64 n, .int .i64 b]) ∧ Below w.heap.size w w' := by
  go_enter Try.func24, Try.ntmps24
  go_wp2
  refine bodyPost_ret (v := .agg #[.int .i64 s, .int .i64 n, .int .i64 b]) (by simp [results, Try.results24, go_sem]) rfl ⟨rfl, ?_⟩
  repeat (first | exact Below.refl _ _ | refine Below.alloc ?_ (by first | omega | (simp; done) | (simp; omega)) _ | refine Below.setCell ?_ (by first | omega | (simp; done) | (simp; omega)) _ | refine Below.drew ?_ | refine Below.trans ?_ (hb9.mono (by first | omega | (simp; done) | (simp; omega))) | refine Below.trans ?_ (hb8.mono (by first | omega | (simp; done) | (simp; omega))) | refine Below.trans ?_ (hb7.mono (by first | omega | (simp; done) | (simp; omega))) | refine Below.trans ?_ (hb6.mono (by first | omega | (simp; done) | (simp; omega))) | refine Below.trans ?_ (hb5.mono (by first | omega | (simp; done) | (simp; omega))) | refine Below.trans ?_ (hb4.mono (by first | omega | (simp; done) | (simp; omega))) | refine Below.trans ?_ (hb3.mono (by first | omega | (simp; done) | (simp; omega))) | refine Below.trans ?_ (hb2.mono (by first | omega | (simp; done) | (simp; omega))) | refine Below.trans ?_ (hb1.mono (by first | omega | (simp; done) | (simp; omega))))
theorem eqPool_any (s n b : Int) (w : World) :
    Calls Try.prog 31 #[.agg #[.int .i64 s, .int .i64 n, .int .i64 b], .agg #[.int .i64 s, .int .i64 n, .int .i64 b]] w fun e w' => e = .returned (.bool true) ∧ Below w.heap.size w w' := by
  go_enter Try.func31, Try.ntmps31
  go_wp2
  go_ret
  refine ⟨rfl, ?_⟩
  repeat (first | exact Below.refl _ _ | refine Below.alloc ?_ (by first | omega | (simp; done) | (simp; omega)) _ | refine Below.setCell ?_ (by first | omega | (simp; done) | (simp; omega)) _ | refine Below.drew ?_ | refine Below.trans ?_ (hb9.mono (by first | omega | (simp; done) | (simp; omega))) | refine Below.trans ?_ (hb8.mono (by first | omega | (simp; done) | (simp; omega))) | refine Below.trans ?_ (hb7.mono (by first | omega | (simp; done) | (simp; omega))) | refine Below.trans ?_ (hb6.mono (by first | omega | (simp; done) | (simp; omega))) | refine Below.trans ?_ (hb5.mono (by first | omega | (simp; done) | (simp; omega))) | refine Below.trans ?_ (hb4.mono (by first | omega | (simp; done) | (simp; omega))) | refine Below.trans ?_ (hb3.mono (by first | omega | (simp; done) | (simp; omega))) | refine Below.trans ?_ (hb2.mono (by first | omega | (simp; done) | (simp; omega))) | refine Below.trans ?_ (hb1.mono (by first | omega | (simp; done) | (simp; omega))))
theorem walk_FnExactPoolOk (s n b : Int) (w : World) :
    Calls Try.prog 3 #[.agg #[.int .i64 s, .int .i64 n, .int .i64 b]] w fun e w' => e = .returned (.bool true) ∧ Below w.heap.size w w' := by
  go_enter Try.func3, Try.ntmps3
  go_wp2_with fail; refine (toPool_any _ _ _ _).mono ?_; rintro e w1 ⟨rfl, hb1⟩; obtain ⟨hc1, hf1⟩ := bcell hb1; have hz1 := hb1.size; try simp at hz1
  have hy1 : w.heap.size < w1.heap.size := by omega
  go_wp2_with fail; refine (spoolOk_any _ _ _ _).mono ?_; rintro e w2 ⟨rfl, hb2⟩; obtain ⟨hc2, hf2⟩ := bcell hb2; have hz2 := hb2.size; try simp at hz2
  have hy2 : w.heap.size < w2.heap.size := by omega
  go_wp2_with fail; refine (toPool_any _ _ _ _).mono ?_; rintro e w3 ⟨rfl, hb3⟩; obtain ⟨hc3, hf3⟩ := bcell hb3; have hz3 := hb3.size; try simp at hz3
  have hy3 : w.heap.size < w3.heap.size := by omega
  go_wp2_with fail; refine (ipoolOk_any _ _ _ _).mono ?_; rintro e w4 ⟨rfl, hb4⟩; obtain ⟨hc4, hf4⟩ := bcell hb4; have hz4 := hb4.size; try simp at hz4
  go_wp2
  go_ret
  refine ⟨rfl, ?_⟩
  repeat (first | exact Below.refl _ _ | refine Below.alloc ?_ (by first | omega | (simp; done) | (simp; omega)) _ | refine Below.setCell ?_ (by first | omega | (simp; done) | (simp; omega)) _ | refine Below.drew ?_ | refine Below.trans ?_ (hb9.mono (by first | omega | (simp; done) | (simp; omega))) | refine Below.trans ?_ (hb8.mono (by first | omega | (simp; done) | (simp; omega))) | refine Below.trans ?_ (hb7.mono (by first | omega | (simp; done) | (simp; omega))) | refine Below.trans ?_ (hb6.mono (by first | omega | (simp; done) | (simp; omega))) | refine Below.trans ?_ (hb5.mono (by first | omega | (simp; done) | (simp; omega))) | refine Below.trans ?_ (hb4.mono (by first | omega | (simp; done) | (simp; omega))) | refine Below.trans ?_ (hb3.mono (by first | omega | (simp; done) | (simp; omega))) | refine Below.trans ?_ (hb2.mono (by first | omega | (simp; done) | (simp; omega))) | refine Below.trans ?_ (hb1.mono (by first | omega | (simp; done) | (simp; omega))))
end Go.Proofs.Ytakmgghjpompoaa

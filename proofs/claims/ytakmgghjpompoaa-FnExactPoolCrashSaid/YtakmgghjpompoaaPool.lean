/- Contracts of the pool's functions. -/
import Derived.Test.YtakmgghjpompoaaInts
namespace Go.Proofs.Ytakmgghjpompoaa
set_option linter.unusedSimpArgs false
set_option linter.unusedVariables false
open Go.RowKit
/-- The size that a new pool gets. -/
def pnS (s : Int) : Int := if inB s 1 1000 then s else 0
theorem sPoolNew_any (s : Int) (w : World) :
    Calls Try.prog 29 #[.int .i64 s] w fun e w' => e = .returned (.tuple #[.agg #[.int .i64 (pnS s), .int .i64 0, .int .i64 0], .bool (inB s 1 1000)]) ∧ Below w.heap.size w w' := by
  go_enter Try.func29, Try.ntmps29
  go_wp2_with (go_at_call 69; refine (l01In_any _ _ _ _).mono ?_; rintro e w' ⟨rfl, rfl⟩)
  all_goals (refine bodyPost_ret (v := .tuple #[.agg #[.int .i64 (pnS s), .int .i64 0, .int .i64 0], .bool (inB s 1 1000)]) (by simp_all [results, Try.results29, go_sem, pnS] <;> (intros; simp_all)) rfl ⟨rfl, ?_⟩; repeat (first | exact Below.refl _ _ | refine Below.alloc ?_ (by first | omega | (simp; done) | (simp; omega)) _ | refine Below.setCell ?_ (by first | omega | (simp; done) | (simp; omega)) _ | refine Below.drew ?_ | refine below_drewN ?_ _ | refine Below.trans ?_ (hb9.mono (by first | omega | (simp; done) | (simp; omega))) | refine Below.trans ?_ (hb8.mono (by first | omega | (simp; done) | (simp; omega))) | refine Below.trans ?_ (hb7.mono (by first | omega | (simp; done) | (simp; omega))) | refine Below.trans ?_ (hb6.mono (by first | omega | (simp; done) | (simp; omega))) | refine Below.trans ?_ (hb5.mono (by first | omega | (simp; done) | (simp; omega))) | refine Below.trans ?_ (hb4.mono (by first | omega | (simp; done) | (simp; omega))) | refine Below.trans ?_ (hb3.mono (by first | omega | (simp; done) | (simp; omega))) | refine Below.trans ?_ (hb2.mono (by first | omega | (simp; done) | (simp; omega))) | refine Below.trans ?_ (hb1.mono (by first | omega | (simp; done) | (simp; omega)))))
theorem iPoolNew_any (s : Int) (w : World) :
    Calls Try.prog 30 #[.int .i64 s] w fun e w' => e = .returned (.tuple #[.agg #[.int .i64 (pnS s), .int .i64 0, .int .i64 0], .bool (inB s 1 1000)]) ∧ Below w.heap.size w w' := by
  go_enter Try.func30, Try.ntmps30
  go_wp2_with (go_at_call 70; refine (within_any _ _ _ _).mono ?_; rintro e w' ⟨rfl, rfl⟩)
  all_goals (refine bodyPost_ret (v := .tuple #[.agg #[.int .i64 (pnS s), .int .i64 0, .int .i64 0], .bool (inB s 1 1000)]) (by simp_all [results, Try.results30, go_sem, pnS] <;> (intros; simp_all)) rfl ⟨rfl, ?_⟩; repeat (first | exact Below.refl _ _ | refine Below.alloc ?_ (by first | omega | (simp; done) | (simp; omega)) _ | refine Below.setCell ?_ (by first | omega | (simp; done) | (simp; omega)) _ | refine Below.drew ?_ | refine below_drewN ?_ _ | refine Below.trans ?_ (hb9.mono (by first | omega | (simp; done) | (simp; omega))) | refine Below.trans ?_ (hb8.mono (by first | omega | (simp; done) | (simp; omega))) | refine Below.trans ?_ (hb7.mono (by first | omega | (simp; done) | (simp; omega))) | refine Below.trans ?_ (hb6.mono (by first | omega | (simp; done) | (simp; omega))) | refine Below.trans ?_ (hb5.mono (by first | omega | (simp; done) | (simp; omega))) | refine Below.trans ?_ (hb4.mono (by first | omega | (simp; done) | (simp; omega))) | refine Below.trans ?_ (hb3.mono (by first | omega | (simp; done) | (simp; omega))) | refine Below.trans ?_ (hb2.mono (by first | omega | (simp; done) | (simp; omega))) | refine Below.trans ?_ (hb1.mono (by first | omega | (simp; done) | (simp; omega)))))
theorem walk_FnExactPoolNew (s : Int) (w : World) :
    Calls Try.prog 5 #[.int .i64 s] w fun e w' => e = .returned (.bool true) ∧ Below w.heap.size w w' := by
  go_enter Try.func5, Try.ntmps5
  go_wp2_with fail; refine (sPoolNew_any _ _).mono ?_; rintro e w1 ⟨rfl, hb1⟩; obtain ⟨hc1, hf1⟩ := bcell hb1; have hz1 := hb1.size; (try simp only [World.size_alloc] at hz1 hc1 hf1); (try have : w.heap.size < w1.heap.size := (by omega)); (try have : w.heap.size + 1 < w1.heap.size := (by omega)); (try have : w.heap.size + 2 < w1.heap.size := (by omega)); (try have : w.heap.size + 3 < w1.heap.size := (by omega)); (try have : w.heap.size + 4 < w1.heap.size := (by omega))
  go_wp2_with fail; refine (iPoolNew_any _ _).mono ?_; rintro e w2 ⟨rfl, hb2⟩; obtain ⟨hc2, hf2⟩ := bcell hb2; have hz2 := hb2.size; (try simp only [World.size_alloc] at hz2 hc2 hf2); (try have : w.heap.size < w2.heap.size := (by omega)); (try have : w.heap.size + 1 < w2.heap.size := (by omega)); (try have : w.heap.size + 2 < w2.heap.size := (by omega)); (try have : w.heap.size + 3 < w2.heap.size := (by omega)); (try have : w.heap.size + 4 < w2.heap.size := (by omega)); (try have : w1.heap.size < w2.heap.size := (by omega)); (try have : w1.heap.size + 1 < w2.heap.size := (by omega)); (try have : w1.heap.size + 2 < w2.heap.size := (by omega)); (try have : w1.heap.size + 3 < w2.heap.size := (by omega)); (try have : w1.heap.size + 4 < w2.heap.size := (by omega))
  go_wp2_with fail; refine (eqPool_any _ _ _ _).mono ?_; rintro e w3 ⟨rfl, hb3⟩; obtain ⟨hc3, hf3⟩ := bcell hb3; have hz3 := hb3.size; (try simp only [World.size_alloc] at hz3 hc3 hf3); (try have : w.heap.size < w3.heap.size := (by omega)); (try have : w.heap.size + 1 < w3.heap.size := (by omega)); (try have : w.heap.size + 2 < w3.heap.size := (by omega)); (try have : w.heap.size + 3 < w3.heap.size := (by omega)); (try have : w.heap.size + 4 < w3.heap.size := (by omega)); (try have : w1.heap.size < w3.heap.size := (by omega)); (try have : w1.heap.size + 1 < w3.heap.size := (by omega)); (try have : w1.heap.size + 2 < w3.heap.size := (by omega)); (try have : w1.heap.size + 3 < w3.heap.size := (by omega)); (try have : w1.heap.size + 4 < w3.heap.size := (by omega)); (try have : w2.heap.size < w3.heap.size := (by omega)); (try have : w2.heap.size + 1 < w3.heap.size := (by omega)); (try have : w2.heap.size + 2 < w3.heap.size := (by omega)); (try have : w2.heap.size + 3 < w3.heap.size := (by omega)); (try have : w2.heap.size + 4 < w3.heap.size := (by omega))
  go_wp2
  go_ret
  refine ⟨rfl, ?_⟩
  repeat (first | exact Below.refl _ _ | refine Below.alloc ?_ (by first | omega | (simp; done) | (simp; omega)) _ | refine Below.setCell ?_ (by first | omega | (simp; done) | (simp; omega)) _ | refine Below.drew ?_ | refine below_drewN ?_ _ | refine Below.trans ?_ (hb9.mono (by first | omega | (simp; done) | (simp; omega))) | refine Below.trans ?_ (hb8.mono (by first | omega | (simp; done) | (simp; omega))) | refine Below.trans ?_ (hb7.mono (by first | omega | (simp; done) | (simp; omega))) | refine Below.trans ?_ (hb6.mono (by first | omega | (simp; done) | (simp; omega))) | refine Below.trans ?_ (hb5.mono (by first | omega | (simp; done) | (simp; omega))) | refine Below.trans ?_ (hb4.mono (by first | omega | (simp; done) | (simp; omega))) | refine Below.trans ?_ (hb3.mono (by first | omega | (simp; done) | (simp; omega))) | refine Below.trans ?_ (hb2.mono (by first | omega | (simp; done) | (simp; omega))) | refine Below.trans ?_ (hb1.mono (by first | omega | (simp; done) | (simp; omega))))
/-- What stands in a pool's middle field behind a crash. -/
def crash (s n b : Int) : Int := if poolOk s n b then b else n
theorem sPoolCrash_any (s n b : Int) (w : World) :
    Calls Try.prog 39 #[.agg #[.int .i64 s, .int .i64 n, .int .i64 b]] w fun e w' => e = .returned (.agg #[.int .i64 s, .int .i64 (crash s n b), .int .i64 b]) ∧ Below w.heap.size w w' := by
  go_enter Try.func39, Try.ntmps39
  go_wp2_with fail
  refine (spoolOk_any _ _ _ _).mono ?_
  rintro e w1 ⟨rfl, hb1⟩
  obtain ⟨hc, hf⟩ := bcell hb1
  have hz1 := hb1.size
  simp only [World.size_alloc] at hz1 hc hf
  have hc0 := hc w.heap.size 0 (by omega)
  have hc1 := hc w.heap.size 1 (by omega)
  have hc2 := hc w.heap.size 2 (by omega)
  have hd0 := hc (w.heap.size + 1) 0 (by omega)
  have hd1 := hc (w.heap.size + 1) 1 (by omega)
  have hd2 := hc (w.heap.size + 1) 2 (by omega)
  have hf1 := hf w.heap.size 1 (by omega)
  have hg0 := hf (w.heap.size + 1) 0 (by omega)
  have hg1 := hf (w.heap.size + 1) 1 (by omega)
  have hg2 := hf (w.heap.size + 1) 2 (by omega)
  simp [go_sem] at hc0 hc1 hc2 hf1 hd0 hd1 hd2 hg0 hg1 hg2
  clear hc hf
  have : w.heap.size < w1.heap.size := by omega
  have : w.heap.size + 1 < w1.heap.size := by omega
  go_wp2
  all_goals (go_tidy; refine bodyPost_ret (v := .agg #[.int .i64 s, .int .i64 (crash s n b), .int .i64 b]) (by simp_all [results, Try.results39, go_sem, crash]) rfl ⟨rfl, ?_⟩; repeat (first | exact Below.refl _ _ | refine Below.alloc ?_ (by first | omega | (simp; done) | (simp; omega)) _ | refine Below.setCell ?_ (by first | omega | (simp; done) | (simp; omega)) _ | refine Below.drew ?_ | refine below_drewN ?_ _ | refine Below.trans ?_ (hb9.mono (by first | omega | (simp; done) | (simp; omega))) | refine Below.trans ?_ (hb8.mono (by first | omega | (simp; done) | (simp; omega))) | refine Below.trans ?_ (hb7.mono (by first | omega | (simp; done) | (simp; omega))) | refine Below.trans ?_ (hb6.mono (by first | omega | (simp; done) | (simp; omega))) | refine Below.trans ?_ (hb5.mono (by first | omega | (simp; done) | (simp; omega))) | refine Below.trans ?_ (hb4.mono (by first | omega | (simp; done) | (simp; omega))) | refine Below.trans ?_ (hb3.mono (by first | omega | (simp; done) | (simp; omega))) | refine Below.trans ?_ (hb2.mono (by first | omega | (simp; done) | (simp; omega))) | refine Below.trans ?_ (hb1.mono (by first | omega | (simp; done) | (simp; omega)))))
theorem iPoolCrash_any (s n b : Int) (w : World) :
    Calls Try.prog 40 #[.agg #[.int .i64 s, .int .i64 n, .int .i64 b]] w fun e w' => e = .returned (.agg #[.int .i64 s, .int .i64 (crash s n b), .int .i64 b]) ∧ Below w.heap.size w w' := by
  go_enter Try.func40, Try.ntmps40
  go_wp2_with fail
  refine (ipoolOk_any _ _ _ _).mono ?_
  rintro e w1 ⟨rfl, hb1⟩
  obtain ⟨hc, hf⟩ := bcell hb1
  have hz1 := hb1.size
  simp only [World.size_alloc] at hz1 hc hf
  have hc0 := hc w.heap.size 0 (by omega)
  have hc1 := hc w.heap.size 1 (by omega)
  have hc2 := hc w.heap.size 2 (by omega)
  have hd0 := hc (w.heap.size + 1) 0 (by omega)
  have hd1 := hc (w.heap.size + 1) 1 (by omega)
  have hd2 := hc (w.heap.size + 1) 2 (by omega)
  have hf1 := hf w.heap.size 1 (by omega)
  have hg0 := hf (w.heap.size + 1) 0 (by omega)
  have hg1 := hf (w.heap.size + 1) 1 (by omega)
  have hg2 := hf (w.heap.size + 1) 2 (by omega)
  simp [go_sem] at hc0 hc1 hc2 hf1 hd0 hd1 hd2 hg0 hg1 hg2
  clear hc hf
  have : w.heap.size < w1.heap.size := by omega
  have : w.heap.size + 1 < w1.heap.size := by omega
  go_wp2
  all_goals (go_tidy; refine bodyPost_ret (v := .agg #[.int .i64 s, .int .i64 (crash s n b), .int .i64 b]) (by simp_all [results, Try.results40, go_sem, crash]) rfl ⟨rfl, ?_⟩; repeat (first | exact Below.refl _ _ | refine Below.alloc ?_ (by first | omega | (simp; done) | (simp; omega)) _ | refine Below.setCell ?_ (by first | omega | (simp; done) | (simp; omega)) _ | refine Below.drew ?_ | refine below_drewN ?_ _ | refine Below.trans ?_ (hb9.mono (by first | omega | (simp; done) | (simp; omega))) | refine Below.trans ?_ (hb8.mono (by first | omega | (simp; done) | (simp; omega))) | refine Below.trans ?_ (hb7.mono (by first | omega | (simp; done) | (simp; omega))) | refine Below.trans ?_ (hb6.mono (by first | omega | (simp; done) | (simp; omega))) | refine Below.trans ?_ (hb5.mono (by first | omega | (simp; done) | (simp; omega))) | refine Below.trans ?_ (hb4.mono (by first | omega | (simp; done) | (simp; omega))) | refine Below.trans ?_ (hb3.mono (by first | omega | (simp; done) | (simp; omega))) | refine Below.trans ?_ (hb2.mono (by first | omega | (simp; done) | (simp; omega))) | refine Below.trans ?_ (hb1.mono (by first | omega | (simp; done) | (simp; omega)))))
theorem walk_FnExactPoolCrash (s n b : Int) (w : World) :
    Calls Try.prog 9 #[.agg #[.int .i64 s, .int .i64 n, .int .i64 b]] w fun e w' => e = .returned (.bool true) ∧ Below w.heap.size w w' := by
  go_enter Try.func9, Try.ntmps9
  go_wp2_with fail; refine (toPool_any _ _ _ _).mono ?_; rintro e w1 ⟨rfl, hb1⟩; obtain ⟨hc1, hf1⟩ := bcell hb1; have hz1 := hb1.size; (try simp only [World.size_alloc] at hz1 hc1 hf1); (try have : w.heap.size < w1.heap.size := (by omega)); (try have : w.heap.size + 1 < w1.heap.size := (by omega)); (try have : w.heap.size + 2 < w1.heap.size := (by omega)); (try have : w.heap.size + 3 < w1.heap.size := (by omega)); (try have : w.heap.size + 4 < w1.heap.size := (by omega))
  go_wp2_with fail; refine (sPoolCrash_any _ _ _ _).mono ?_; rintro e w2 ⟨rfl, hb2⟩; obtain ⟨hc2, hf2⟩ := bcell hb2; have hz2 := hb2.size; (try simp only [World.size_alloc] at hz2 hc2 hf2); (try have : w.heap.size < w2.heap.size := (by omega)); (try have : w.heap.size + 1 < w2.heap.size := (by omega)); (try have : w.heap.size + 2 < w2.heap.size := (by omega)); (try have : w.heap.size + 3 < w2.heap.size := (by omega)); (try have : w.heap.size + 4 < w2.heap.size := (by omega)); (try have : w1.heap.size < w2.heap.size := (by omega)); (try have : w1.heap.size + 1 < w2.heap.size := (by omega)); (try have : w1.heap.size + 2 < w2.heap.size := (by omega)); (try have : w1.heap.size + 3 < w2.heap.size := (by omega)); (try have : w1.heap.size + 4 < w2.heap.size := (by omega))
  go_wp2_with fail; refine (toPool_any _ _ _ _).mono ?_; rintro e w3 ⟨rfl, hb3⟩; obtain ⟨hc3, hf3⟩ := bcell hb3; have hz3 := hb3.size; (try simp only [World.size_alloc] at hz3 hc3 hf3); (try have : w.heap.size < w3.heap.size := (by omega)); (try have : w.heap.size + 1 < w3.heap.size := (by omega)); (try have : w.heap.size + 2 < w3.heap.size := (by omega)); (try have : w.heap.size + 3 < w3.heap.size := (by omega)); (try have : w.heap.size + 4 < w3.heap.size := (by omega)); (try have : w1.heap.size < w3.heap.size := (by omega)); (try have : w1.heap.size + 1 < w3.heap.size := (by omega)); (try have : w1.heap.size + 2 < w3.heap.size := (by omega)); (try have : w1.heap.size + 3 < w3.heap.size := (by omega)); (try have : w1.heap.size + 4 < w3.heap.size := (by omega)); (try have : w2.heap.size < w3.heap.size := (by omega)); (try have : w2.heap.size + 1 < w3.heap.size := (by omega)); (try have : w2.heap.size + 2 < w3.heap.size := (by omega)); (try have : w2.heap.size + 3 < w3.heap.size := (by omega)); (try have : w2.heap.size + 4 < w3.heap.size := (by omega))
  go_wp2_with fail; refine (iPoolCrash_any _ _ _ _).mono ?_; rintro e w4 ⟨rfl, hb4⟩; obtain ⟨hc4, hf4⟩ := bcell hb4; have hz4 := hb4.size; (try simp only [World.size_alloc] at hz4 hc4 hf4); (try have : w.heap.size < w4.heap.size := (by omega)); (try have : w.heap.size + 1 < w4.heap.size := (by omega)); (try have : w.heap.size + 2 < w4.heap.size := (by omega)); (try have : w.heap.size + 3 < w4.heap.size := (by omega)); (try have : w.heap.size + 4 < w4.heap.size := (by omega)); (try have : w1.heap.size < w4.heap.size := (by omega)); (try have : w1.heap.size + 1 < w4.heap.size := (by omega)); (try have : w1.heap.size + 2 < w4.heap.size := (by omega)); (try have : w1.heap.size + 3 < w4.heap.size := (by omega)); (try have : w1.heap.size + 4 < w4.heap.size := (by omega)); (try have : w2.heap.size < w4.heap.size := (by omega)); (try have : w2.heap.size + 1 < w4.heap.size := (by omega)); (try have : w2.heap.size + 2 < w4.heap.size := (by omega)); (try have : w2.heap.size + 3 < w4.heap.size := (by omega)); (try have : w2.heap.size + 4 < w4.heap.size := (by omega)); (try have : w3.heap.size < w4.heap.size := (by omega)); (try have : w3.heap.size + 1 < w4.heap.size := (by omega)); (try have : w3.heap.size + 2 < w4.heap.size := (by omega)); (try have : w3.heap.size + 3 < w4.heap.size := (by omega)); (try have : w3.heap.size + 4 < w4.heap.size := (by omega))
  go_wp2_with fail; refine (eqPool_any _ _ _ _).mono ?_; rintro e w5 ⟨rfl, hb5⟩; obtain ⟨hc5, hf5⟩ := bcell hb5; have hz5 := hb5.size; (try simp only [World.size_alloc] at hz5 hc5 hf5); (try have : w.heap.size < w5.heap.size := (by omega)); (try have : w.heap.size + 1 < w5.heap.size := (by omega)); (try have : w.heap.size + 2 < w5.heap.size := (by omega)); (try have : w.heap.size + 3 < w5.heap.size := (by omega)); (try have : w.heap.size + 4 < w5.heap.size := (by omega)); (try have : w1.heap.size < w5.heap.size := (by omega)); (try have : w1.heap.size + 1 < w5.heap.size := (by omega)); (try have : w1.heap.size + 2 < w5.heap.size := (by omega)); (try have : w1.heap.size + 3 < w5.heap.size := (by omega)); (try have : w1.heap.size + 4 < w5.heap.size := (by omega)); (try have : w2.heap.size < w5.heap.size := (by omega)); (try have : w2.heap.size + 1 < w5.heap.size := (by omega)); (try have : w2.heap.size + 2 < w5.heap.size := (by omega)); (try have : w2.heap.size + 3 < w5.heap.size := (by omega)); (try have : w2.heap.size + 4 < w5.heap.size := (by omega)); (try have : w3.heap.size < w5.heap.size := (by omega)); (try have : w3.heap.size + 1 < w5.heap.size := (by omega)); (try have : w3.heap.size + 2 < w5.heap.size := (by omega)); (try have : w3.heap.size + 3 < w5.heap.size := (by omega)); (try have : w3.heap.size + 4 < w5.heap.size := (by omega)); (try have : w4.heap.size < w5.heap.size := (by omega)); (try have : w4.heap.size + 1 < w5.heap.size := (by omega)); (try have : w4.heap.size + 2 < w5.heap.size := (by omega)); (try have : w4.heap.size + 3 < w5.heap.size := (by omega)); (try have : w4.heap.size + 4 < w5.heap.size := (by omega))
  go_wp2
  go_ret
  refine ⟨rfl, ?_⟩
  repeat (first | exact Below.refl _ _ | refine Below.alloc ?_ (by first | omega | (simp; done) | (simp; omega)) _ | refine Below.setCell ?_ (by first | omega | (simp; done) | (simp; omega)) _ | refine Below.drew ?_ | refine below_drewN ?_ _ | refine Below.trans ?_ (hb9.mono (by first | omega | (simp; done) | (simp; omega))) | refine Below.trans ?_ (hb8.mono (by first | omega | (simp; done) | (simp; omega))) | refine Below.trans ?_ (hb7.mono (by first | omega | (simp; done) | (simp; omega))) | refine Below.trans ?_ (hb6.mono (by first | omega | (simp; done) | (simp; omega))) | refine Below.trans ?_ (hb5.mono (by first | omega | (simp; done) | (simp; omega))) | refine Below.trans ?_ (hb4.mono (by first | omega | (simp; done) | (simp; omega))) | refine Below.trans ?_ (hb3.mono (by first | omega | (simp; done) | (simp; omega))) | refine Below.trans ?_ (hb2.mono (by first | omega | (simp; done) | (simp; omega))) | refine Below.trans ?_ (hb1.mono (by first | omega | (simp; done) | (simp; omega))))
end Go.Proofs.Ytakmgghjpompoaa

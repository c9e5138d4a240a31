/- What garbling makes are labels. No program is walked here. -/
import Derived.Test.YtodnahpegecpiaaEvg
namespace Go.Proofs.Ytodnahpegecpiaa
set_option linter.unusedSimpArgs false
set_option linter.unusedVariables false
theorem inB2 {n : Nat} (h : n ≤ 6000) : inB (2 * (n : Int)) 0 1000000 = true := inB_iff.2 ⟨by omega, by omega⟩
theorem inB3 {n : Nat} (h : n ≤ 6000) : inB (2 * (n : Int) + 1) 0 1000000 = true := inB_iff.2 ⟨by omega, by omega⟩
section
variable {d a b : Int} {n : Nat}
theorem tabG_lab (hn : n ≤ 6000) (ld : lab d = true) (la : lab a = true) (lb : lab b = true) : lab (tabG d a b n) = true :=
  xo_lab (xo_lab (hash_lab la (inB2 hn)) (hash_lab (xo_lab la ld) (inB2 hn))) (sel_lab ld)
theorem tabE_lab (hn : n ≤ 6000) (ld : lab d = true) (la : lab a = true) (lb : lab b = true) : lab (tabE d a b n) = true :=
  xo_lab (xo_lab (hash_lab lb (inB3 hn)) (hash_lab (xo_lab lb ld) (inB3 hn))) la
theorem andZ_lab (hn : n ≤ 6000) (ld : lab d = true) (la : lab a = true) (lb : lab b = true) : lab (andZ d a b n) = true :=
  xo_lab (xo_lab (xo_lab (hash_lab la (inB2 hn)) (hash_lab lb (inB3 hn))) (sel_lab (tabG_lab hn ld la lb))) (sel_lab (xo_lab (tabE_lab hn ld la lb) la))
end
theorem allLab_snoc {l : List Int} {x : Int} : allLab (l ++ [x]) = (allLab l && lab x) := by simp [allLab]
theorem allLab_app {l m : List Int} : allLab (l ++ m) = (allLab l && allLab m) := by simp [allLab]
section
variable {s a d : Int} {l : List (Int × Int × Int)} {o : List Int}
theorem gZs_lab (hc : circOk l o = true) (ht : tapeOk s a = true) (ld : lab d = true) : ∀ k, k ≤ l.length → allLab (gZs s a d l k) = true
  | 0, _ => rfl
  | k + 1, hk => by
    have ih := gZs_lab hc ht ld k (by omega)
    have hl := gZs_len s a d l k
    have h6 := circ_len hc
    have at_ : ∀ i, i < k → lab (nth (gZs s a d l k) i) = true := fun i hi => all_nth ih (by omega)
    rw [gZs, allLab_snoc, ih, Bool.true_and]
    rcases gate_cases hc (show k < l.length by omega) with ⟨m, hg, hm⟩ | ⟨m, hg, hm⟩ | ⟨m, j, hg, hm, hj⟩ | ⟨m, j, hg, hm, hj⟩ | ⟨m, hg, hm⟩
    · rw [zNew, hg]; exact inputZero_lab ht (inB_iff.2 ⟨show (0 : Int) ≤ (m : Int) by omega, show (m : Int) ≤ 1000000 by omega⟩)
    · rw [zNew, hg]; exact inputZero_lab ht (inB_iff.2 ⟨by omega, by omega⟩)
    · rw [zNew, hg]; exact xo_lab (at_ m hm) (at_ j hj)
    · rw [zNew, hg]; exact andZ_lab (by omega) ld (at_ m hm) (at_ j hj)
    · rw [zNew, hg]; exact xo_lab (at_ m hm) ld
theorem gTs_lab (hc : circOk l o = true) (ht : tapeOk s a = true) (ld : lab d = true) : ∀ k, k ≤ l.length → allLab (gTs s a d l k) = true
  | 0, _ => rfl
  | k + 1, hk => by
    have ih := gTs_lab hc ht ld k (by omega)
    have iz := gZs_lab hc ht ld k (by omega)
    have hl := gZs_len s a d l k
    have h6 := circ_len hc
    have at_ : ∀ i, i < k → lab (nth (gZs s a d l k) i) = true := fun i hi => all_nth iz (by omega)
    rw [gTs, allLab_app, ih, Bool.true_and]
    split
    · rename_i h4
      rcases gate_cases hc (show k < l.length by omega) with ⟨m, hg, hm⟩ | ⟨m, hg, hm⟩ | ⟨m, j, hg, hm, hj⟩ | ⟨m, j, hg, hm, hj⟩ | ⟨m, hg, hm⟩ <;> rw [hg] at h4 ⊢
      · exact absurd h4 (by show ¬ (1 : Int) = 4; decide)
      · exact absurd h4 (by show ¬ (2 : Int) = 4; decide)
      · exact absurd h4 (by show ¬ (3 : Int) = 4; decide)
      · have e1 := tabG_lab (n := k) (by omega) ld (at_ m hm) (at_ j hj)
        have e2 := tabE_lab (n := k) (by omega) ld (at_ m hm) (at_ j hj)
        simp only [Int.toNat_natCast]
        show (List.all _ lab) = true
        simp [e1, e2]
      · exact absurd h4 (by show ¬ (5 : Int) = 4; decide)
    · rfl
end
end Go.Proofs.Ytodnahpegecpiaa

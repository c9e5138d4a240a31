/- A contract of eqIntSS. Printed by mac2.py. -/
import Derived.Test.YtodnahpegecpiaaGrid
namespace Go.Proofs.Ytodnahpegecpiaa
set_option linter.unusedSimpArgs false
set_option linter.unusedVariables false
open Go.RowKit
set_option maxRecDepth 100000 in
theorem eqIntSS_any (A B : Option Addr) (n c m d : Nat) (ll : List (List Int)) (w : World) (h : RdGr w (.slice A n c) ll) (h2 : RdGr w (.slice B m d) ll) (hn : ll.length ≤ 1048576) (hm : ∀ j, (ll.getD j []).length ≤ 1048576) :
    Calls Try.prog 43 #[.slice A n c, .slice B m d] w fun e w' => e = .returned (.bool true) ∧ Below w.heap.size w w' := by
  have hl := h.len
  have hl2 := h2.len
  obtain rfl : m = n := by omega
  have HL := Lib.hid hl
  clear hl hl2
  have hn' : m ≤ 1048576 := by rw [← HL.out]; exact hn
  go_enter Try.func43, Try.ntmps43
  go_wp2_with fail
  go_loopw [5] (fun i wr => ∃ k : Nat, k ≤ m ∧ i = .int .i64 k ∧ Below w.heap.size w wr) (fun i _ => m - (intOf i).toNat)
  case atStart => exact ⟨0, by omega, rfl, Below.refl _ _⟩
  case round =>
    obtain ⟨k, hk, rfl, B9⟩ := hrel
    obtain ⟨w9, hw9⟩ : ∃ x, x = wr := ⟨wr, rfl⟩
    subst hw9
    have z9 := B9.size
    by_cases hlt : k < m
    · obtain ⟨g, o, u, rfl, hg, hc, hr, _⟩ := h.at hlt
      obtain ⟨g2, o2, u2, rfl, hg2, hc2, hr2, _⟩ := h2.at hlt
      go_wp2_with fail
      refine wp_region_held_drew (S := fun W => W.cell? ⟨g, o + k, none⟩ = some u ∧ W.cell? ⟨g2, o2 + k, none⟩ = some u2) (by kernel_rfl) ⟨(cellB hg hc), (cellB hg2 hc2)⟩ (fun hS => ?_)
      (refine tk 0 hS ?_; (try simp only [Act.put, layA, layB, layC]))
      (refine tk 1 hS ?_; (try simp only [Act.put, layA, layB, layC]))
      (refine tk 2 hS ?_; (try simp only [Act.put, layA, layB, layC]))
      (refine tk 3 hS ?_; (try simp only [Act.put, layA, layB, layC]))
      (refine tk 4 hS ?_; (try simp only [Act.put, layA, layB, layC]))
      (refine tk 5 hS ?_; (try simp only [Act.put, layA, layB, layC]))
      (refine tk 6 hS ?_; (try simp only [Act.put, layA, layB, layC]))
      (refine tk 7 hS ?_; (try simp only [Act.put, layA, layB, layC]))
      refine on 8 ?_
      refine callH (by go_simp; (first | done | with_reducible rfl | exact ⟨rfl, rfl⟩)) ?_
      go_at_call 37
      refine (eqIntS_L (RdL.one hr.b) (RdL.one hr2.b) (hm k)).mono ?_
      rintro e w10 ⟨rfl, b10⟩
      clear hS
      have z10 := Below.size b10
      (try simp only [World.size_alloc, World.size_setCell, size_drew] at z10)
      have B10 : Below w.heap.size w w10 := Below.t b10
      refine ⟨_, rfl, ⟨(cellB hg hc), (cellB hg2 hc2)⟩, fun hS => ?_⟩
      (try simp only [Act.put, layA, layB, layC])
      (refine tk 9 hS ?_; (try simp only [Act.put, layA, layB, layC]))
      clear hS
      refine wpAnyH_done (by kernel_rfl) ?_ _
      go_wp2
      go_roundw
      case rel => exact ⟨k + 1, by omega, by go_num, B10⟩
      case measure => simp [intOf]; omega
    · go_wp2
      go_ret
      exact ⟨rfl, B9⟩
theorem eqIntSS_M {v v2 : Value} {ll : List (List Int)} {w : World} (h : RdGr w v ll) (h2 : RdGr w v2 ll) (hn : ll.length ≤ 1048576) (hm : ∀ j, (ll.getD j []).length ≤ 1048576) :
    Calls Try.prog 43 #[v, v2] w fun e w' => e = .returned (.bool true) ∧ Below w.heap.size w w' := by
  obtain ⟨us, e, ⟨A, n, c, rfl, hV⟩, hr⟩ := id h
  obtain ⟨us2, e2, ⟨B, m, d, rfl, hV2⟩, hr2⟩ := id h2
  exact eqIntSS_any A B n c m d ll w h h2 hn hm
end Go.Proofs.Ytodnahpegecpiaa

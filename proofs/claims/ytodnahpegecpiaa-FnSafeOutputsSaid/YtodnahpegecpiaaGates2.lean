/- A contract of eqGateS. Printed by mac2.py. -/
import Derived.Test.YtodnahpegecpiaaGates
import Derived.Test.YtodnahpegecpiaaAuto
namespace Go.Proofs.Ytodnahpegecpiaa
set_option linter.unusedSimpArgs false
set_option linter.unusedVariables false
open Go.RowKit
set_option maxRecDepth 100000 in
set_option maxHeartbeats 1000000 in
theorem eqGateS_any (A B : Option Addr) (n c d : Nat) (l : List (Int × Int × Int)) (w : World) (h : Gates w A n l) (h2 : Gates w B n l) (hn : n ≤ 1048576) :
    Calls Try.prog 107 #[.slice A n c, .slice B n d] w fun e w' => e = .returned (.bool true) ∧ Below w.heap.size w w' := by
  go_enter Try.func107, Try.ntmps107
  go_wp2_with fail
  go_loopw [5] (fun i wr => ∃ k : Nat, k ≤ n ∧ i = .int .i64 k ∧ Below w.heap.size w wr) (fun i _ => n - (intOf i).toNat)
  case atStart => exact ⟨0, by omega, rfl, Below.refl _ _⟩
  case round =>
    obtain ⟨k, hk, rfl, B9⟩ := hrel
    obtain ⟨w9, hw9⟩ : ∃ x, x = wr := ⟨wr, rfl⟩
    subst hw9
    have z9 := B9.size
    by_cases hlt : k < n
    · obtain ⟨g, o, rfl, hg, d0, d1, d2⟩ := h.at hlt
      obtain ⟨g2, o2, rfl, hg2, e0, e1, e2⟩ := h2.at hlt
      generalize l.getD k (0, 0, 0) = gt at *
      obtain ⟨ki, ai, bi⟩ := gt
      dsimp only at d0 d1 d2 e0 e1 e2
      go_wp2_with fail
      refine wp_region_held_drew (S := fun W => W.cell? ⟨g, o + k * 3, none⟩ = some (.int .i64 ki) ∧ W.cell? ⟨g, o + k * 3 + 1, none⟩ = some (.int .i64 ai) ∧ W.cell? ⟨g, o + k * 3 + 2, none⟩ = some (.int .i64 bi) ∧ W.cell? ⟨g2, o2 + k * 3, none⟩ = some (.int .i64 ki) ∧ W.cell? ⟨g2, o2 + k * 3 + 1, none⟩ = some (.int .i64 ai) ∧ W.cell? ⟨g2, o2 + k * 3 + 2, none⟩ = some (.int .i64 bi)) (by kernel_rfl) ⟨((Below.cell (w := w) (by repeat (with_reducible (first | assumption | exact Below.refl _ _ | refine Below.alloc ?_ (by first | omega | (simp; done) | (simp; omega)) _ | refine Below.setCell ?_ (by first | omega | (simp; done) | (simp; omega)) _ | refine Below.drew ?_ | refine below_drewN ?_ _))) hg).trans d0), ((Below.cell (w := w) (by repeat (with_reducible (first | assumption | exact Below.refl _ _ | refine Below.alloc ?_ (by first | omega | (simp; done) | (simp; omega)) _ | refine Below.setCell ?_ (by first | omega | (simp; done) | (simp; omega)) _ | refine Below.drew ?_ | refine below_drewN ?_ _))) hg).trans d1), ((Below.cell (w := w) (by repeat (with_reducible (first | assumption | exact Below.refl _ _ | refine Below.alloc ?_ (by first | omega | (simp; done) | (simp; omega)) _ | refine Below.setCell ?_ (by first | omega | (simp; done) | (simp; omega)) _ | refine Below.drew ?_ | refine below_drewN ?_ _))) hg).trans d2), ((Below.cell (w := w) (by repeat (with_reducible (first | assumption | exact Below.refl _ _ | refine Below.alloc ?_ (by first | omega | (simp; done) | (simp; omega)) _ | refine Below.setCell ?_ (by first | omega | (simp; done) | (simp; omega)) _ | refine Below.drew ?_ | refine below_drewN ?_ _))) hg2).trans e0), ((Below.cell (w := w) (by repeat (with_reducible (first | assumption | exact Below.refl _ _ | refine Below.alloc ?_ (by first | omega | (simp; done) | (simp; omega)) _ | refine Below.setCell ?_ (by first | omega | (simp; done) | (simp; omega)) _ | refine Below.drew ?_ | refine below_drewN ?_ _))) hg2).trans e1), ((Below.cell (w := w) (by repeat (with_reducible (first | assumption | exact Below.refl _ _ | refine Below.alloc ?_ (by first | omega | (simp; done) | (simp; omega)) _ | refine Below.setCell ?_ (by first | omega | (simp; done) | (simp; omega)) _ | refine Below.drew ?_ | refine below_drewN ?_ _))) hg2).trans e2)⟩ (fun hS => ?_)
      (refine tk 0 hS ?_; (try simp only [Act.put, layA, layB, layC]))
      (refine tk 1 hS ?_; (try simp only [Act.put, layA, layB, layC]))
      (refine tk 2 hS ?_; (try simp only [Act.put, layA, layB, layC]))
      (refine tk 3 hS ?_; (try simp only [Act.put, layA, layB, layC]))
      (refine tk 4 hS ?_; (try simp only [Act.put, layA, layB, layC]))
      (refine tk 5 hS ?_; (try simp only [Act.put, layA, layB, layC]))
      (refine tk 6 hS ?_; (try simp only [Act.put, layA, layB, layC]))
      (refine tk 7 hS ?_; (try simp only [Act.put, layA, layB, layC]))
      refine on 8 ?_
      refine callH (by go_simp; (first | done | with_reducible rfl | exact ⟨rfl, rfl⟩)) ?_
      go_at_call 124
      refine (eqGate_L ki ai bi).mono ?_
      rintro e w10 ⟨rfl, b10⟩
      clear hS
      have z10 := Below.size b10
      (try simp only [World.size_alloc, World.size_setCell, size_drew] at z10)
      have B10 : Below w.heap.size w w10 := Below.t b10
      refine ⟨_, rfl, ⟨((Below.cell (w := w) (by repeat (with_reducible (first | assumption | exact Below.refl _ _ | refine Below.alloc ?_ (by first | omega | (simp; done) | (simp; omega)) _ | refine Below.setCell ?_ (by first | omega | (simp; done) | (simp; omega)) _ | refine Below.drew ?_ | refine below_drewN ?_ _))) hg).trans d0), ((Below.cell (w := w) (by repeat (with_reducible (first | assumption | exact Below.refl _ _ | refine Below.alloc ?_ (by first | omega | (simp; done) | (simp; omega)) _ | refine Below.setCell ?_ (by first | omega | (simp; done) | (simp; omega)) _ | refine Below.drew ?_ | refine below_drewN ?_ _))) hg).trans d1), ((Below.cell (w := w) (by repeat (with_reducible (first | assumption | exact Below.refl _ _ | refine Below.alloc ?_ (by first | omega | (simp; done) | (simp; omega)) _ | refine Below.setCell ?_ (by first | omega | (simp; done) | (simp; omega)) _ | refine Below.drew ?_ | refine below_drewN ?_ _))) hg).trans d2), ((Below.cell (w := w) (by repeat (with_reducible (first | assumption | exact Below.refl _ _ | refine Below.alloc ?_ (by first | omega | (simp; done) | (simp; omega)) _ | refine Below.setCell ?_ (by first | omega | (simp; done) | (simp; omega)) _ | refine Below.drew ?_ | refine below_drewN ?_ _))) hg2).trans e0), ((Below.cell (w := w) (by repeat (with_reducible (first | assumption | exact Below.refl _ _ | refine Below.alloc ?_ (by first | omega | (simp; done) | (simp; omega)) _ | refine Below.setCell ?_ (by first | omega | (simp; done) | (simp; omega)) _ | refine Below.drew ?_ | refine below_drewN ?_ _))) hg2).trans e1), ((Below.cell (w := w) (by repeat (with_reducible (first | assumption | exact Below.refl _ _ | refine Below.alloc ?_ (by first | omega | (simp; done) | (simp; omega)) _ | refine Below.setCell ?_ (by first | omega | (simp; done) | (simp; omega)) _ | refine Below.drew ?_ | refine below_drewN ?_ _))) hg2).trans e2)⟩, fun hS => ?_⟩
      (try simp only [Act.put, layA, layB, layC])
      (refine tk 9 hS ?_; (try simp only [Act.put, layA, layB, layC]))
      clear hS
      refine wpAnyH_done (by kernel_rfl) ?_ _
      go_wp2
      go_roundw
      case rel => exact ⟨k + 1, by omega, by go_num, B10⟩
      case measure => simp [intOf]; omega
    · go_wp2
      go_ret
      exact ⟨rfl, B9⟩
theorem eqGateS_L {v v2 : Value} {l : List (Int × Int × Int)} {w : World} (h : RdL w [(v, .gates l)]) (h2 : RdL w [(v2, .gates l)]) (hn : l.length ≤ 1048576) :
    Calls Try.prog 107 #[v, v2] w fun e w' => e = .returned (.bool true) ∧ Below w.heap.size w w' := by
  obtain ⟨A, n, c, rfl, hG⟩ : RdG w v l := h (v, .gates l) (by simp)
  obtain ⟨B, m, d, rfl, hG2⟩ : RdG w v2 l := h2 (v2, .gates l) (by simp)
  have e : m = n := by rw [← hG.1, ← hG2.1]
  subst e
  exact eqGateS_any A B m c d l w hG hG2 (by rw [← hG.1]; exact hn)
end Go.Proofs.Ytodnahpegecpiaa

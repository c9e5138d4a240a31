/- Owned objects by the range of their blocks, and what a call that writes them leaves: the statements' helpers told so. -/
import Derived.Test.YtodnahpegecpiaaOwnR
import Derived.Test.YtodnahpegecpiaaGen
namespace Go.Proofs.Ytodnahpegecpiaa
set_option linter.unusedSimpArgs false
set_option linter.unusedVariables false
open Go.RowKit
/-- w' is w but for blocks from lo on and below hi (and new ones). -/
structure Chg (lo hi : Nat) (w w' : World) : Prop where
  os : w'.os = w.os
  tape : w'.tape = w.tape
  output : w'.output = w.output
  size : w.heap.size ≤ w'.heap.size
  block : ∀ k, k < w.heap.size → (k < lo ∨ hi ≤ k) → w'.heap[k]? = w.heap[k]?
section
variable {w w' w2 : World} {lo hi lo2 hi2 B : Nat} {v : Value} {l : List Int}
theorem Chg.refl (lo hi : Nat) (w : World) : Chg lo hi w w := ⟨rfl, rfl, rfl, Nat.le_refl _, fun _ _ _ => rfl⟩
theorem Chg.trans (h : Chg lo hi w w') (k : Chg lo hi w' w2) : Chg lo hi w w2 :=
  ⟨k.os.trans h.os, k.tape.trans h.tape, k.output.trans h.output, Nat.le_trans h.size k.size, fun i hi hne => (k.block i (Nat.lt_of_lt_of_le hi h.size) hne).trans (h.block i hi hne)⟩
theorem Chg.mono (h : Chg lo hi w w') (h1 : lo2 ≤ lo) (h2 : hi ≤ hi2) : Chg lo2 hi2 w w' :=
  ⟨h.os, h.tape, h.output, h.size, fun k hk hne => h.block k hk (by omega)⟩
theorem Chg.below (h : Chg lo hi w w') (hB : B ≤ lo) (hs : B ≤ w.heap.size) : Below B w w' :=
  ⟨h.os, h.tape, h.output, h.size, fun k hk => h.block k (by omega) (.inl (by omega))⟩
theorem Chg.of_below (h : Below w.heap.size w w') : Chg lo hi w w' := ⟨h.os, h.tape, h.output, h.size, fun k hk _ => h.block k hk⟩
theorem OwnR.chg (h : OwnR w lo hi v l) (ho : w.grownBy w' v.ownBlock) : Chg lo hi w w' :=
  ⟨ho.os, ho.tape, ho.output, ho.size, fun k hk hne => ho.block k hk (fun e => by have h1 := (h.1.block k e.symm).1; have h2 := h.2.1 k e.symm; omega)⟩
theorem Own.blockKeep {base : Nat} (h : Own w base v l) (hb : ∀ k, v.ownBlock = some k → w'.heap[k]? = w.heap[k]?) : Own w' base v l := by
  refine ⟨h.1, ?_⟩
  rcases h.2 with hn | ⟨g, cap, cur, rfl, hb', hg, rest⟩
  · exact .inl hn
  · exact .inr ⟨g, cap, cur, rfl, hb', (hb g rfl).trans hg, rest⟩
theorem OwnR.away (h : OwnR w lo2 hi2 v l) (hc : Chg lo hi w w') (hd : hi ≤ lo2 ∨ hi2 ≤ lo) : OwnR w' lo2 hi2 v l :=
  ⟨h.1.blockKeep fun k hk => by
    have h1 := h.1.block k hk
    have h2 := h.2.1 k hk
    exact hc.block k h1.2 (by omega), h.2.1, Nat.le_trans h.2.2 hc.size⟩
theorem OwnR.lo_le (h : OwnR w lo hi v l) (hn : v.ownBlock ≠ none) : lo < hi := by
  cases hv : v.ownBlock with
  | none => exact absurd hv hn
  | some k => have h1 := (h.1.block k hv).1; have h2 := h.2.1 k hv; omega
end
/-- A slice of numbers that the law was handed, or that was made, reads as l. -/
def Rd (w : World) (v : Value) (l : List Int) : Prop := ∃ A n c, v = .slice A n c ∧ Ints w A n l
theorem OwnR.rd {w : World} {lo hi : Nat} {v : Value} {l : List Int} (h : OwnR w lo hi v l) : Rd w v l := by
  obtain ⟨A, c, e, hI⟩ := h.1.reads
  exact ⟨A, _, c, e, hI⟩
theorem Rd.below {w w' : World} {v : Value} {l : List Int} (h : Rd w v l) (hb : Below w.heap.size w w') : Rd w' v l := by
  obtain ⟨A, n, c, e, hI⟩ := h
  exact ⟨A, n, c, e, hI.below hb⟩
/-- A result: owned, in new memory. -/
abbrev NewR (w w' : World) (v : Value) (l : List Int) : Prop := OwnR w' w.heap.size w'.heap.size v l
theorem toIntS_R {v : Value} {l : List Int} {w : World} (h : Rd w v l) (hn : l.length ≤ 1048576) :
    Calls Try.prog 35 #[v] w fun e w' => ∃ v', e = .returned v' ∧ NewR w w' v' l ∧ Below w.heap.size w w' := by
  obtain ⟨A, n, c, rfl, hI⟩ := h
  refine (toIntS_any A n c l w hI (by rw [← hI.len]; exact hn)).mono ?_
  rintro e w' ⟨rfl, h1, h2⟩
  exact ⟨_, rfl, h1.range, h2⟩
theorem eqIntS_R {v v2 : Value} {l : List Int} {w : World} (h : Rd w v l) (h2 : Rd w v2 l) (hn : l.length ≤ 1048576) :
    Calls Try.prog 37 #[v, v2] w fun e w' => e = .returned (.bool true) ∧ Below w.heap.size w w' := by
  obtain ⟨A, n, c, rfl, hI⟩ := h
  obtain ⟨A2, n2, c2, rfl, hI2⟩ := h2
  have e := hI.len
  have e2 := hI2.len
  obtain rfl : n = n2 := by omega
  exact eqIntS_any A A2 n c c2 l w hI hI2 (by omega)
theorem markIntS_R {lo hi : Nat} {v : Value} {l : List Int} {w : World} (k0 : Nat) (K : Int) (h : OwnR w lo hi v l) (hK : K = k0) (hn : l.length ≤ 1048576) (hk0 : k0 ≤ 1099511627776) :
    Calls Try.prog 45 #[v, .int .i64 K] w fun e w' => e = .returned (.int .i64 (K + (l.length : Int))) ∧ OwnR w' lo hi v (seqL k0 l.length) ∧ Chg lo hi w w' := by
  subst hK
  refine (markIntS_any lo k0 v l w h.1 hn hk0).mono ?_
  rintro e w' ⟨rfl, h1, h2⟩
  exact ⟨ret_int (by omega), h.marked h1 h2, h.chg h2⟩
theorem heldIntS_R {n : Nat} {v : Value} {w : World} (k0 : Nat) (K : Int) (h : Rd w v (seqL k0 n)) (hK : K = k0) (hn : n ≤ 1048576) (hk0 : k0 ≤ 1099511627776) :
    Calls Try.prog 46 #[v, .int .i64 K] w fun e w' => e = .returned (.int .i64 (K + (n : Int))) ∧ w = w' := by
  subst hK
  obtain ⟨A, m, c, rfl, hI⟩ := h
  have e := hI.len
  rw [seqL_len] at e
  subst e
  refine (heldIntS_any k0 A n c w hI hn hk0).mono ?_
  rintro e w' ⟨rfl, rfl⟩
  exact ⟨ret_int (by omega), rfl⟩
end Go.Proofs.Ytodnahpegecpiaa

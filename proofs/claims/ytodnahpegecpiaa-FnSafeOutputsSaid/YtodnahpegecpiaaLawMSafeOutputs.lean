/- Proved: for all arguments the law FnSafeOutputs returns true, and the arguments read behind the call as before. No condition. -/
import Derived.Test.YtodnahpegecpiaaRaB
import Derived.Test.YtodnahpegecpiaaPuo
import Derived.Test.YtodnahpegecpiaaLok
import Derived.Test.YtodnahpegecpiaaLab
import Derived.Test.YtodnahpegecpiaaCnt
import Derived.Test.YtodnahpegecpiaaAcc
import Derived.Test.YtodnahpegecpiaaWir
import Derived.Test.YtodnahpegecpiaaDrw
import Derived.Test.YtodnahpegecpiaaEww
import Derived.Test.YtodnahpegecpiaaOpenS
import Derived.Test.YtodnahpegecpiaaFacts
import Derived.Test.YtodnahpegecpiaaOpenK
namespace Go.Proofs.Ytodnahpegecpiaa
set_option linter.unusedSimpArgs false
set_option linter.unusedVariables false
open Go.RowKit
/-- A slice of slices reads as lists of numbers. -/
def RdGr (w : World) (v : Value) (ll : List (List Int)) : Prop := ∃ us, us.length = ll.length ∧ RdV w v us ∧ ∀ j, j < ll.length → Rd w (us.getD j (.slice none 0 0)) (ll.getD j [])
theorem RdGr.below {w w' : World} {v : Value} {ll : List (List Int)} (h : RdGr w v ll) (hb : Below w.heap.size w w') : RdGr w' v ll := by
  obtain ⟨us, e, ⟨A, n, c, e2, hV⟩, hr⟩ := h
  exact ⟨us, e, ⟨A, n, c, e2, hV.below hb⟩, fun j hj => (hr j hj).below hb⟩
theorem RdGr.b {w w' : World} {v : Value} {ll : List (List Int)} (h : RdGr w v ll) (hb : Below w.heap.size w w' := by repeat (with_reducible (first | assumption | exact Below.refl _ _ | refine Below.alloc ?_ (by first | omega | (simp; done) | (simp; omega)) _ | refine Below.setCell ?_ (by first | omega | (simp; done) | (simp; omega)) _ | refine Below.drew ?_ | refine below_drewN ?_ _))) : RdGr w' v ll := h.below hb
/-- The owned slices of a slice of slices: the row of their values, then each. -/
def gridL (v : Value) (us : List Value) (ll : List (List Int)) : List (Value × Dat) := (v, .rows us) :: List.zip us (ll.map Dat.ints)
/-- A slice of slices of the call's own. -/
def OwnG (w : World) (lo hi : Nat) (v : Value) (ll : List (List Int)) : Prop := ∃ us : List Value, us.length = ll.length ∧ OwnL w lo hi (gridL v us ll)
section
variable {w w' : World} {lo hi lo2 hi2 : Nat} {v : Value} {ll : List (List Int)}
theorem OwnG.alloc (h : OwnG w lo hi v ll) (o : Obj) : OwnG (w.alloc o) lo hi v ll := by obtain ⟨us, e, h⟩ := h; exact ⟨us, e, h.alloc o⟩
theorem OwnG.drew (h : OwnG w lo hi v ll) : OwnG w.drew lo hi v ll := by obtain ⟨us, e, h⟩ := h; exact ⟨us, e, h.drew⟩
theorem OwnG.setBox {g i : Nat} {u : Value} (h : OwnG w lo hi v ll) (hd : g < lo ∨ hi ≤ g) : OwnG (w.setCell ⟨g, i, none⟩ u) lo hi v ll := by obtain ⟨us, e, h⟩ := h; exact ⟨us, e, h.setBox hd⟩
theorem OwnG.below (h : OwnG w lo hi v ll) (hb : Below w.heap.size w w') : OwnG w' lo hi v ll := by obtain ⟨us, e, h⟩ := h; exact ⟨us, e, h.below hb⟩
theorem OwnG.away (h : OwnG w lo2 hi2 v ll) (hc : Chg lo hi w w') (hd : hi ≤ lo2 ∨ hi2 ≤ lo) : OwnG w' lo2 hi2 v ll := by obtain ⟨us, e, h⟩ := h; exact ⟨us, e, h.away hc hd⟩
theorem OwnG.mono (h : OwnG w lo hi v ll) (h1 : lo2 ≤ lo) (h2 : hi ≤ hi2) (h3 : hi2 ≤ w.heap.size) : OwnG w lo2 hi2 v ll := by obtain ⟨us, e, h⟩ := h; exact ⟨us, e, h.mono h1 h2 h3⟩
theorem OwnG.keepBlock (h : OwnG w lo hi v ll) (hs : w.heap.size ≤ w'.heap.size) (hb : ∀ k, lo ≤ k → k < hi → w'.heap[k]? = w.heap[k]?) : OwnG w' lo hi v ll := by obtain ⟨us, e, h⟩ := h; exact ⟨us, e, h.keepBlock hs hb⟩
theorem zip_mem {us : List Value} {ll : List (List Int)} (e : us.length = ll.length) {j : Nat} (hj : j < ll.length) : (us.getD j (.slice none 0 0), Dat.ints (ll.getD j [])) ∈ List.zip us (ll.map Dat.ints) := by
  have h1 : j < (List.zip us (ll.map Dat.ints)).length := by simp; omega
  have h2 : (List.zip us (ll.map Dat.ints))[j] = (us.getD j (.slice none 0 0), Dat.ints (ll.getD j [])) := by
    simp [List.getD, show j < us.length by omega, hj]
  rw [← h2]
  exact List.getElem_mem h1
theorem OwnG.rd (h : OwnG w lo hi v ll) : RdGr w v ll := by
  obtain ⟨us, e, h⟩ := h
  have hr := h.rd
  exact ⟨us, e, hr (v, .rows us) (by simp [gridL]), fun j hj => hr _ (List.mem_cons_of_mem _ (zip_mem e hj))⟩
end
theorem RdGr.at {w : World} {A : Option Addr} {n c : Nat} {ll : List (List Int)} (h : RdGr w (.slice A n c) ll) {j : Nat} (hj : j < n) :
    ∃ g o u, A = some ⟨g, o, none⟩ ∧ g < w.heap.size ∧ w.cell? ⟨g, o + j, none⟩ = some u ∧ Rd w u (ll.getD j []) ∧ ll.length = n := by
  obtain ⟨us, e, ⟨A', n', c', e2, hV⟩, hr⟩ := h
  cases e2
  have hl := hV.1
  obtain ⟨g, o, e3, hc⟩ := hV.2 (by omega)
  obtain ⟨u, h1, h2⟩ := hc j hj
  refine ⟨g, o, u, e3, World.block_lt_of_cell? w _ h2, h2, ?_, by omega⟩
  have := hr j (by omega)
  rw [List.getD_eq_getElem?_getD, h1] at this
  exact this
theorem RdGr.len {w : World} {A : Option Addr} {n c : Nat} {ll : List (List Int)} (h : RdGr w (.slice A n c) ll) : ll.length = n := by
  obtain ⟨us, e, ⟨A', n', c', e2, hV⟩, hr⟩ := h
  cases e2
  have := hV.1; omega
theorem ints_info : (Try.prog.info? 25).map (fun i => (i.zero, i.size, i.bytes)) = some (some (.slice none 0 0), 1, 24) := by kernel_rfl
theorem row_cell1 {w : World} {base n cap g : Nat} {e : TypeId} {xs : List Value} (h : w.ownsRow base e 1 (.slice (some ⟨g, 0, none⟩) n cap) n xs) (j : Nat) (hj : j < n) : ∃ v, w.cell? ⟨g, j, none⟩ = some v := by
  have h1 := h.1
  exact ⟨xs[j]'(by omega), by rw [h.cellAt j (by omega)]; simp⟩
/-- 'make([][]int, n)'. -/
theorem make_rows {w : World} {ops : Array Oper} {rest : List Oper} {o : Oper} {a : Act} {Q : Exit → Act → World → Prop} (hgd : o.guard = none) (s x : Operand) (hop : o.op = Op.makeSlice 54 s x)
    (base n : Nat) (hs : a.eval s = .int .i64 n) (hx : a.eval x = .int .i64 n) (hn : n ≤ 1099511627776) (hbase : base ≤ w.heap.size)
    (h : ∀ w', OwnD w' base (.slice (some ⟨w.heap.size, 0, none⟩) n n) (.rows (List.replicate n (.slice none 0 0))) → w.grownBy w' none → wpList Try.prog ops Q rest (a.put o.dst (.slice (some ⟨w.heap.size, 0, none⟩) n n)) w') :
    wpList Try.prog ops Q (o :: rest) a w := by
  obtain ⟨i0, hi, hz0, hz1, hz2⟩ := info_parts ints_info
  refine wpList_make_full (P := Try.prog) w hgd s x 54 hop base 25 i0 (.slice none 0 0) 1 Try.underlying54 hi hz0 hz1 .i64 .i64 n n n hs hx rfl rfl (by rw [hz2]; omega) (by unfold maxLen; omega) hbase ?_
  intro w' h1 h2
  refine h w' ?_ h2
  unfold OwnD
  rw [Nat.mul_one, show (Value.slice none 0 0).cells = #[Value.slice none 0 0] from rfl, toList_madeCells_one] at h1
  show World.ownsRow _ _ _ _ _ (List.replicate n _).length _
  rw [List.length_replicate]
  exact h1
theorem zip_snoc {us : List Value} {ll : List (List Int)} {k : Nat} {v : Value} (hu : us.length = ll.length) (hk : k < ll.length) :
    List.zip (us.take k) ((ll.take k).map Dat.ints) ++ [(v, Dat.ints (ll.getD k []))] = List.zip ((us.set k v).take (k + 1)) ((ll.take (k + 1)).map Dat.ints) := by
  have e1 : (us.set k v).take (k + 1) = us.take k ++ [v] := by
    rw [List.take_succ_eq_append_getElem (by simp; omega), List.take_set_of_le (Nat.le_refl _)]; simp
  have e2 : ll.take (k + 1) = ll.take k ++ [ll.getD k []] := by
    rw [List.take_succ_eq_append_getElem hk]; simp [List.getD, hk]
  rw [e1, e2, List.map_append, List.zip_append (by simp; omega)]
  rfl
set_option maxRecDepth 100000 in
set_option maxHeartbeats 1000000 in
theorem toIntSS_any (A : Option Addr) (n c : Nat) (ll : List (List Int)) (w : World) (h : RdGr w (.slice A n c) ll) (hn : ll.length ≤ 1048576) (hm : ∀ j, (ll.getD j []).length ≤ 1048576) :
    Calls Try.prog 41 #[.slice A n c] w fun e w' => e = .returned (.slice (some ⟨w.heap.size, 0, none⟩) n n) ∧ OwnG w' w.heap.size w'.heap.size (.slice (some ⟨w.heap.size, 0, none⟩) n n) ll ∧ Below w.heap.size w w' := by
  have hl := Lib.hid h.len
  have hn' : n ≤ 1048576 := by rw [← hl.out]; exact hn
  go_enter Try.func41, Try.ntmps41
  go_wp2_with (at_make; go_must (refine make_rows rfl _ _ rfl w.heap.size n rfl rfl (by omega) (Nat.le_refl _) ?_); intro w1 hown hg1)
  have hb1 : Below w.heap.size w w1 := (Below.refl _ w).grown hg1 (Nat.le_refl _) (by intro k hk; cases hk)
  go_loopw [4] (fun i wr => ∃ (k : Nat) (us : List Value), k ≤ n ∧ i = .int .i64 k ∧ Hid (us.length = n) ∧ Hid (OwnL wr w.heap.size wr.heap.size ((.slice (some ⟨w.heap.size, 0, none⟩) n n, .rows us) :: List.zip (us.take k) ((ll.take k).map Dat.ints))) ∧ Below w.heap.size w wr) (fun i _ => n - (intOf i).toNat)
  case atStart => exact ⟨0, _, by omega, rfl, List.length_replicate, OwnL.one hown hb1.size, hb1⟩
  case round =>
    obtain ⟨k, us, hk, rfl, HU, R, B9⟩ := hrel
    obtain ⟨w9, hw9⟩ : ∃ x, x = wr := ⟨wr, rfl⟩
    subst hw9
    have R := R.out
    have z9 := B9.size
    by_cases hlt : k < n
    · obtain ⟨g, o, u, rfl, hg, hc, hr, _⟩ := h.at hlt
      have hck : w9.cell? ⟨g, o + k, none⟩ = some u := (B9.cell hg).trans hc
      go_wp2_with fail
      refine (toIntS_L (RdL.one (hr.below B9)) (hm k)).mono ?_
      rintro e w2 ⟨B, m, d, rfl, r2, b2⟩
      have z2 := b2.size
      have R2 := (R.below b2).then r2 (Nat.le_refl _)
      have ho : OwnD w2 w.heap.size (.slice (some ⟨w.heap.size, 0, none⟩) n n) (.rows us) := R2.get (p := (.slice (some ⟨w.heap.size, 0, none⟩) n n, .rows us)) (by simp)
      have ho' : w2.ownsRow w.heap.size 25 1 (.slice (some ⟨w.heap.size, 0, none⟩) n n) n us := by
        have h1 : w2.ownsRow w.heap.size 25 1 (.slice (some ⟨w.heap.size, 0, none⟩) n n) us.length us := ho
        rw [HU.out] at h1; exact h1
      obtain ⟨v0, hv0⟩ := row_cell1 ho' k (by omega)
      have hf := World.ownsRow.frozenAt ho' k
      go_wp2
      obtain ⟨s0, p0⟩ := ho'.stored k (.slice B m d)
      have hu := HU.out
      have hll := hl.out
      have R3 := OwnL.set (pre := []) (d' := .rows (us.set k (.slice B m d))) R2 (show OwnD _ _ _ _ by unfold OwnD; show World.ownsRow _ _ _ _ _ (us.set k _).length _; rw [List.length_set, hu]; exact s0) p0
      have hB2 : Below w.heap.size w w2 := B9.trans (b2.mono z9)
      go_roundw
      case rel => exact ⟨k + 1, us.set k (.slice B m d), by omega, by go_num, by show List.length _ = _; rw [List.length_set]; exact hu, by
          have e := zip_snoc (us := us) (ll := ll) (v := .slice B m d) (k := k) (by omega) (by omega)
          show OwnL _ _ _ _
          rw [← e]
          exact OwnL.mono R3 (Nat.le_refl _) (by simp) (by simp), hB2.grown p0 hB2.size (by intro j hj; cases hj; exact Nat.le_refl _)⟩
      case measure => simp [intOf]; omega
    · go_wp2
      go_ret
      have hu := HU.out
      have hll := hl.out
      have hkn : k = n := by omega
      subst hkn
      rw [List.take_of_length_le (by omega), List.take_of_length_le (by omega)] at R
      exact ⟨rfl, ⟨us, by omega, R⟩, B9⟩
theorem toIntSS_M {v : Value} {ll : List (List Int)} {w : World} (h : RdGr w v ll) (hn : ll.length ≤ 1048576) (hm : ∀ j, (ll.getD j []).length ≤ 1048576) :
    Calls Try.prog 41 #[v] w fun e w' => ∃ A n c, e = .returned (.slice A n c) ∧ OwnG w' w.heap.size w'.heap.size (.slice A n c) ll ∧ Below w.heap.size w w' := by
  obtain ⟨us, e, ⟨A, n, c, rfl, hV⟩, hr⟩ := id h
  refine (toIntSS_any A n c ll w h hn hm).mono ?_
  rintro e w' ⟨rfl, h1, h2⟩
  exact ⟨_, _, _, rfl, h1, h2⟩
end Go.Proofs.Ytodnahpegecpiaa
namespace Go.Proofs.Ytodnahpegecpiaa
set_option linter.unusedSimpArgs false
set_option linter.unusedVariables false
open Go.RowKit
set_option maxRecDepth 100000 in
theorem eqIntSS_any (A B : Option Addr) (n c m d : Nat) (ll : List (List Int)) (w : World) (h : RdGr w (.slice A n c) ll) (h2 : RdGr w (.slice B m d) ll) (hn : ll.length ≤ 1048576) (hm : ∀ j, (ll.getD j []).length ≤ 1048576) :
    Calls Try.prog 43 #[.slice A n c, .slice B m d] w fun e w' => e = .returned (.bool true) ∧ Below w.heap.size w w' := by
  have hl := h.len
  have hl2 := h2.len
  obtain rfl : m = n := by omega
  have HL := Lib.hid hl
  clear hl hl2
  have hn' : m ≤ 1048576 := by rw [← HL.out]; exact hn
  go_enter Try.func43, Try.ntmps43
  go_wp2_with fail
  go_loopw [5] (fun i wr => ∃ k : Nat, k ≤ m ∧ i = .int .i64 k ∧ Below w.heap.size w wr) (fun i _ => m - (intOf i).toNat)
  case atStart => exact ⟨0, by omega, rfl, Below.refl _ _⟩
  case round =>
    obtain ⟨k, hk, rfl, B9⟩ := hrel
    obtain ⟨w9, hw9⟩ : ∃ x, x = wr := ⟨wr, rfl⟩
    subst hw9
    have z9 := B9.size
    by_cases hlt : k < m
    · obtain ⟨g, o, u, rfl, hg, hc, hr, _⟩ := h.at hlt
      obtain ⟨g2, o2, u2, rfl, hg2, hc2, hr2, _⟩ := h2.at hlt
      go_wp2_with fail
      refine wp_region_held_drew (S := fun W => W.cell? ⟨g, o + k, none⟩ = some u ∧ W.cell? ⟨g2, o2 + k, none⟩ = some u2) (by kernel_rfl) ⟨(cellB hg hc), (cellB hg2 hc2)⟩ (fun hS => ?_)
      (refine tk 0 hS ?_; (try simp only [Act.put, layA, layB, layC]))
      (refine tk 1 hS ?_; (try simp only [Act.put, layA, layB, layC]))
      (refine tk 2 hS ?_; (try simp only [Act.put, layA, layB, layC]))
      (refine tk 3 hS ?_; (try simp only [Act.put, layA, layB, layC]))
      (refine tk 4 hS ?_; (try simp only [Act.put, layA, layB, layC]))
      (refine tk 5 hS ?_; (try simp only [Act.put, layA, layB, layC]))
      (refine tk 6 hS ?_; (try simp only [Act.put, layA, layB, layC]))
      (refine tk 7 hS ?_; (try simp only [Act.put, layA, layB, layC]))
      refine on 8 ?_
      refine callH (by go_simp; (first | done | with_reducible rfl | exact ⟨rfl, rfl⟩)) ?_
      go_at_call 37
      refine (eqIntS_L (RdL.one hr.b) (RdL.one hr2.b) (hm k)).mono ?_
      rintro e w10 ⟨rfl, b10⟩
      clear hS
      have z10 := Below.size b10
      (try simp only [World.size_alloc, World.size_setCell, size_drew] at z10)
      have B10 : Below w.heap.size w w10 := Below.t b10
      refine ⟨_, rfl, ⟨(cellB hg hc), (cellB hg2 hc2)⟩, fun hS => ?_⟩
      (try simp only [Act.put, layA, layB, layC])
      (refine tk 9 hS ?_; (try simp only [Act.put, layA, layB, layC]))
      clear hS
      refine wpAnyH_done (by kernel_rfl) ?_ _
      go_wp2
      go_roundw
      case rel => exact ⟨k + 1, by omega, by go_num, B10⟩
      case measure => simp [intOf]; omega
    · go_wp2
      go_ret
      exact ⟨rfl, B9⟩
theorem eqIntSS_M {v v2 : Value} {ll : List (List Int)} {w : World} (h : RdGr w v ll) (h2 : RdGr w v2 ll) (hn : ll.length ≤ 1048576) (hm : ∀ j, (ll.getD j []).length ≤ 1048576) :
    Calls Try.prog 43 #[v, v2] w fun e w' => e = .returned (.bool true) ∧ Below w.heap.size w w' := by
  obtain ⟨us, e, ⟨A, n, c, rfl, hV⟩, hr⟩ := id h
  obtain ⟨us2, e2, ⟨B, m, d, rfl, hV2⟩, hr2⟩ := id h2
  exact eqIntSS_any A B n c m d ll w h h2 hn hm
end Go.Proofs.Ytodnahpegecpiaa
namespace Go.Proofs.Ytodnahpegecpiaa
set_option linter.unusedSimpArgs false
set_option linter.unusedVariables false
open Go.RowKit
/-- The numbers of the first k slices, counted. -/
def sumLen (ll : List (List Int)) (k : Nat) : Nat := ((ll.take k).map List.length).sum
theorem sumLen_zero (ll : List (List Int)) : sumLen ll 0 = 0 := by simp [sumLen]
theorem sumLen_succ {ll : List (List Int)} {k : Nat} (h : k < ll.length) : sumLen ll (k + 1) = sumLen ll k + (ll.getD k []).length := by
  unfold sumLen
  rw [List.take_succ_eq_append_getElem h, List.map_append, List.sum_append]
  simp [List.getD, h]
theorem sumLen_mono {ll : List (List Int)} {j k : Nat} (h : j ≤ k) (hk : k ≤ ll.length) : sumLen ll j ≤ sumLen ll k := by
  induction k with
  | zero => have : j = 0 := by omega
            subst this; exact Nat.le_refl _
  | succ k ih =>
    by_cases e : j = k + 1
    · subst e; exact Nat.le_refl _
    · have := ih (by omega) (by omega)
      rw [sumLen_succ (by omega)]; omega
theorem sumLen_at {ll : List (List Int)} (j : Nat) : (ll.getD j []).length ≤ sumLen ll ll.length := by
  by_cases h : j < ll.length
  · have h1 := sumLen_succ h
    have h2 := sumLen_mono (ll := ll) (j := j + 1) (k := ll.length) (by omega) (Nat.le_refl _)
    omega
  · simp [List.getD, h]
/-- The count of a slice of slices, its own slices' headers with it. -/
def totLL (ll : List (List Int)) : Nat := ll.length + sumLen ll ll.length
theorem totLL_outer {ll : List (List Int)} (h : totLL ll ≤ 1048576) : ll.length ≤ 1048576 := by unfold totLL at h; omega
theorem totLL_inner {ll : List (List Int)} (h : totLL ll ≤ 1048576) (j : Nat) : (ll.getD j []).length ≤ 1048576 := by have := sumLen_at (ll := ll) j; unfold totLL at h; omega
/-- Bounds of a slice of slices. -/
def BdLL (ll : List (List Int)) : Prop := ll.length ≤ 1048576 ∧ (∀ j, (ll.getD j []).length ≤ 1048576) ∧ sumLen ll ll.length ≤ 4194304
theorem totLL_bd {ll : List (List Int)} (h : totLL ll ≤ 1048576) : BdLL ll := ⟨totLL_outer h, totLL_inner h, by unfold totLL at h; omega⟩
/-- A slice of slices among the arguments, of whatever lengths. -/
def RdGr0 (w : World) (v : Value) (ll : List (List Int)) : Prop := RdGr w v ll ∧ ll.length ≤ maxLen ∧ ∀ j, (ll.getD j []).length ≤ maxLen
theorem RdGr0.rd {w : World} {v : Value} {ll : List (List Int)} (h : RdGr0 w v ll) : RdGr w v ll := h.1
theorem RdGr0.below {w w' : World} {v : Value} {ll : List (List Int)} (h : RdGr0 w v ll) (hb : Below w.heap.size w w') : RdGr0 w' v ll := ⟨h.1.below hb, h.2⟩
theorem RdGr0.b {w w' : World} {v : Value} {ll : List (List Int)} (h : RdGr0 w v ll) (hb : Below w.heap.size w w' := by repeat (with_reducible (first | assumption | exact Below.refl _ _ | refine Below.alloc ?_ (by first | omega | (simp; done) | (simp; omega)) _ | refine Below.setCell ?_ (by first | omega | (simp; done) | (simp; omega)) _ | refine Below.drew ?_ | refine below_drewN ?_ _))) : RdGr0 w' v ll := h.below hb
theorem RdGr0.form {w : World} {v : Value} {ll : List (List Int)} (h : RdGr0 w v ll) : ∃ A n c, v = .slice A n c ∧ ll.length = n := by
  obtain ⟨us, e, ⟨A, n, c, e2, hV⟩, hr⟩ := h.1
  exact ⟨A, n, c, e2, by rw [← e]; exact hV.1⟩
theorem Rd.rd0 {w : World} {v : Value} {l : List Int} (h : Rd w v l) (hm : l.length ≤ maxLen) : Rd0 w v l := by
  obtain ⟨A, n, c, e, hI⟩ := h
  exact ⟨A, n, c, e, by rw [← hI.len]; exact hm, hI⟩
def szLL (left : Nat) (ll : List (List Int)) : Int := if totLL ll ≤ left then ((left - totLL ll : Nat) : Int) else -1
theorem szLL_yes {left : Nat} {ll : List (List Int)} (h : totLL ll ≤ left) : szLL left ll = ((left - totLL ll : Nat) : Int) := if_pos h
theorem szLL_no {left : Nat} {ll : List (List Int)} (h : ¬ totLL ll ≤ left) : szLL left ll = -1 := if_neg h
set_option maxRecDepth 100000 in
theorem szIntSS_any (A : Option Addr) (n c : Nat) (ll : List (List Int)) (w : World) (h : RdGr0 w (.slice A n c) ll) (left : Nat) (hleft : left ≤ 1048576) :
    Calls Try.prog 39 #[.slice A n c, .int .i64 left] w fun e w' => e = .returned (.int .i64 (szLL left ll)) ∧ Below w.heap.size w w' := by
  have hl := Lib.hid h.1.len
  have hn : n ≤ maxLen := by rw [← hl.out]; exact h.2.1
  unfold maxLen at hn
  by_cases h0 : n ≤ left
  · go_enter Try.func39, Try.ntmps39
    have hm : (0 : Int) ≤ (left : Int) - (n : Int) := by omega
    go_wp2_with fail
    go_loopw [1, 5] (fun q i wr => ∃ k x : Nat, k ≤ n ∧ i = .int .i64 k ∧ q = .int .i64 x ∧ Hid (n + sumLen ll k + x = left) ∧ Below w.heap.size w wr) (fun _ i _ => n - (intOf i).toNat)
    case atStart => exact ⟨0, left - n, by omega, rfl, by go_num, by show _ = _; rw [sumLen_zero]; omega, Below.refl _ _⟩
    case round =>
      obtain ⟨k, x, hk, rfl, rfl, HX, B9⟩ := hrel
      have hx : x ≤ 1048576 := by have := HX.out; omega
      have hll := hl.out
      by_cases hlt : k < n
      · obtain ⟨g, o, u, rfl, hg, hc, hr, _⟩ := h.1.at hlt
        have hck : wr.cell? ⟨g, o + k, none⟩ = some u := (B9.cell hg).trans hc
        have hr0 := (hr.rd0 (h.2.2 k)).below B9
        have hs := Lib.hid (sumLen_succ (ll := ll) (k := k) (by omega))
        generalize ll.getD k [] = rk at hr0 hs
        by_cases hy : rk.length ≤ x
        · have hy' : (0 : Int) ≤ ((x - rk.length : Nat) : Int) := by omega
          clear hll
          go_wp2_with fail
          refine (szIntS_yes hr0 x _ rfl hx hy).mono ?_
          rintro e w2 ⟨rfl, b2⟩
          go_wp2
          have z9 := B9.size
          go_roundw
          case rel => exact ⟨k + 1, x - rk.length, by omega, by go_num, rfl, by show _ = _; rw [hs.out]; have := HX.out; omega, B9.trans (b2.mono z9)⟩
          case measure => simp [intOf]; omega
        · have hN : Hid (¬ totLL ll ≤ left) := by
            show ¬ _
            have h2 := sumLen_mono (ll := ll) (j := k + 1) (k := ll.length) (by omega) (Nat.le_refl _)
            have h3 := hs.out
            have h4 := HX.out
            unfold totLL; omega
          clear hll
          go_wp2_with fail
          refine (szIntS_no hr0 x _ rfl hx hy).mono ?_
          rintro e w2 ⟨rfl, b2⟩
          go_wp2
          go_ret
          rw [szLL_no hN.out]
          exact ⟨rfl, B9.trans (b2.mono B9.size)⟩
      · have hY : Hid (totLL ll ≤ left ∧ left - totLL ll = x) := by
          show _ ∧ _
          have h4 := HX.out
          have : k = ll.length := by omega
          subst this
          unfold totLL; omega
        clear hll
        go_wp2
        go_ret
        rw [szLL_yes hY.out.1, hY.out.2]
        exact ⟨rfl, B9⟩
  · have hN : Hid (¬ totLL ll ≤ left) := by
      show ¬ _
      have := hl.out
      unfold totLL; omega
    have hm : (left : Int) - (n : Int) < 0 := by omega
    go_enter Try.func39, Try.ntmps39
    go_wp2
    go_ret
    rw [szLL_no hN.out]
    exact ⟨rfl, Below.refl _ _⟩
theorem szIntSS_yes {v : Value} {ll : List (List Int)} {w : World} (h : RdGr0 w v ll) (left : Nat) (K : Int) (hK : K = left) (hleft : left ≤ 1048576) (hle : totLL ll ≤ left) :
    Calls Try.prog 39 #[v, .int .i64 K] w fun e w' => e = .returned (.int .i64 ((left - totLL ll : Nat) : Int)) ∧ Below w.heap.size w w' := by
  obtain ⟨us, e, ⟨A, n, c, rfl, hV⟩, hr⟩ := id h.1
  subst hK
  have := szIntSS_any A n c ll w h left hleft
  rwa [szLL_yes hle] at this
theorem szIntSS_no {v : Value} {ll : List (List Int)} {w : World} (h : RdGr0 w v ll) (left : Nat) (K : Int) (hK : K = left) (hleft : left ≤ 1048576) (hle : ¬ totLL ll ≤ left) :
    Calls Try.prog 39 #[v, .int .i64 K] w fun e w' => e = .returned (.int .i64 (-1)) ∧ Below w.heap.size w w' := by
  obtain ⟨us, e, ⟨A, n, c, rfl, hV⟩, hr⟩ := id h.1
  subst hK
  have := szIntSS_any A n c ll w h left hleft
  rwa [szLL_no hle] at this
/-- What marking leaves: all numbers count on; mixLL: the first k slices are marked. -/
def mixLL (k0 : Nat) (ll : List (List Int)) (k : Nat) : List (List Int) := (List.range ll.length).map fun j => if j < k then seqL (k0 + sumLen ll j) (ll.getD j []).length else ll.getD j []
def seqLL (k0 : Nat) (ll : List (List Int)) : List (List Int) := mixLL k0 ll ll.length
theorem mixLL_len (k0 : Nat) (ll : List (List Int)) (k : Nat) : (mixLL k0 ll k).length = ll.length := by simp [mixLL]
theorem seqLL_len (k0 : Nat) (ll : List (List Int)) : (seqLL k0 ll).length = ll.length := mixLL_len _ _ _
theorem mixLL_at {k0 : Nat} {ll : List (List Int)} {k j : Nat} (h : j < ll.length) : (mixLL k0 ll k).getD j [] = if j < k then seqL (k0 + sumLen ll j) (ll.getD j []).length else ll.getD j [] := by
  simp [mixLL, List.getD, h]
theorem mixLL_zero (k0 : Nat) (ll : List (List Int)) : mixLL k0 ll 0 = ll := by
  refine List.ext_getElem (by simp [mixLL]) ?_
  intro i h1 h2
  simp [mixLL, List.getD, h2]
theorem mixLL_set {k0 : Nat} {ll : List (List Int)} {k : Nat} (h : k < ll.length) : (mixLL k0 ll k).set k (seqL (k0 + sumLen ll k) (ll.getD k []).length) = mixLL k0 ll (k + 1) := by
  refine List.ext_getElem (by simp [mixLL]) ?_
  intro i h1 h2
  rw [List.getElem_set]
  have hi : i < ll.length := by rw [mixLL_len] at h2; exact h2
  by_cases e : k = i
  · subst e; simp [mixLL, List.getD, hi]
  · rw [if_neg e]
    simp only [mixLL, List.getElem_map, List.getElem_range]
    by_cases h3 : i < k
    · rw [if_pos h3, if_pos (by omega)]
    · rw [if_neg h3, if_neg (by omega)]
theorem seqLL_inner {k0 : Nat} {ll : List (List Int)} (j : Nat) : ((seqLL k0 ll).getD j []).length = (ll.getD j []).length := by
  by_cases h : j < ll.length
  · rw [seqLL, mixLL_at h, if_pos h, seqL_len]
  · simp [List.getD, h, seqLL_len]
theorem zip_split {us : List Value} {mm : List (List Int)} {k : Nat} (e : us.length = mm.length) (hk : k < mm.length) (u : Value) (hu : us[k]? = some u) (x : List Int) :
    gridL (.slice none 0 0) us mm = ((.slice none 0 0, .rows us) :: (List.zip us (mm.map Dat.ints)).take k) ++ (u, .ints (mm.getD k [])) :: (List.zip us (mm.map Dat.ints)).drop (k + 1) ∧
    gridL (.slice none 0 0) us (mm.set k x) = ((.slice none 0 0, .rows us) :: (List.zip us (mm.map Dat.ints)).take k) ++ (u, .ints x) :: (List.zip us (mm.map Dat.ints)).drop (k + 1) := by
  have hz : (List.zip us (mm.map Dat.ints)).length = mm.length := by simp; omega
  have hk2 : k < us.length := by omega
  have hu2 : us[k] = u := by rw [List.getElem?_eq_getElem hk2] at hu; exact Option.some.inj hu
  have hget : (List.zip us (mm.map Dat.ints))[k]'(by omega) = (u, Dat.ints (mm.getD k [])) := by
    simp [List.getD, hk, hu2]
  have e1 : List.zip us (mm.map Dat.ints) = (List.zip us (mm.map Dat.ints)).take k ++ (u, Dat.ints (mm.getD k [])) :: (List.zip us (mm.map Dat.ints)).drop (k + 1) := by
    rw [← hget]
    conv => lhs; rw [← List.take_append_drop k (List.zip us (mm.map Dat.ints))]
    rw [List.drop_eq_getElem_cons (by omega)]
  have e2 : List.zip us ((mm.set k x).map Dat.ints) = (List.zip us (mm.map Dat.ints)).set k (u, Dat.ints x) := by
    refine List.ext_getElem (by simp) ?_
    intro i h1 h2
    rw [List.getElem_set]
    by_cases hik : k = i
    · subst hik; simp [hu2]
    · simp [List.getElem_set, hik]
  constructor
  · unfold gridL
    rw [List.cons_append, ← e1]
  · unfold gridL
    rw [List.cons_append, e2, List.set_eq_take_append_cons_drop, if_pos (by omega)]
theorem grid_split {v : Value} {us : List Value} {mm : List (List Int)} {k : Nat} (e : us.length = mm.length) (hk : k < mm.length) (u : Value) (hu : us[k]? = some u) (x : List Int) :
    gridL v us mm = ((v, .rows us) :: (List.zip us (mm.map Dat.ints)).take k) ++ (u, .ints (mm.getD k [])) :: (List.zip us (mm.map Dat.ints)).drop (k + 1) ∧
    gridL v us (mm.set k x) = ((v, .rows us) :: (List.zip us (mm.map Dat.ints)).take k) ++ (u, .ints x) :: (List.zip us (mm.map Dat.ints)).drop (k + 1) := by
  have := zip_split e hk u hu x
  unfold gridL at this ⊢
  simpa using this
/-- A slice of the own grid is read at its place. -/
theorem OwnG.at {w : World} {lo hi : Nat} {A : Option Addr} {n c : Nat} {mm : List (List Int)} (h : OwnG w lo hi (.slice A n c) mm) {k : Nat} (hk : k < n) :
    ∃ g o u pre post, A = some ⟨g, o, none⟩ ∧ w.cell? ⟨g, o + k, none⟩ = some u ∧ OwnL w lo hi (pre ++ (u, .ints (mm.getD k [])) :: post) ∧
      ∀ w' x, OwnL w' lo hi (pre ++ (u, .ints x) :: post) → OwnG w' lo hi (.slice A n c) (mm.set k x) := by
  obtain ⟨us, e, h⟩ := h
  have hr := h.rd (.slice A n c, .rows us) (by simp [gridL])
  obtain ⟨A', n', c', e2, hV⟩ := hr
  cases e2
  have hl := hV.1
  obtain ⟨g, o, e3, hc⟩ := hV.2 (by omega)
  obtain ⟨u, h1, h2⟩ := hc k hk
  refine ⟨g, o, u, _, _, e3, h2, by rw [← (grid_split e (by omega) u h1 []).1]; exact h, ?_⟩
  intro w' x hx
  refine ⟨us, by rw [List.length_set]; exact e, ?_⟩
  rw [(grid_split e (by omega) u h1 x).2]
  exact hx
theorem OwnG.form {w : World} {lo hi : Nat} {v : Value} {mm : List (List Int)} (h : OwnG w lo hi v mm) : ∃ A n c, v = .slice A n c ∧ mm.length = n := by
  obtain ⟨us, e, h⟩ := h
  obtain ⟨A, n, c, e2, hV⟩ := h.rd (v, .rows us) (by simp [gridL])
  exact ⟨A, n, c, e2, by rw [← e]; exact hV.1⟩
theorem OwnG.lo {w : World} {lo hi : Nat} {v : Value} {mm : List (List Int)} (h : OwnG w lo hi v mm) : lo ≤ hi ∧ hi ≤ w.heap.size := by
  obtain ⟨us, e, h⟩ := h; exact ⟨h.1, h.2.1⟩
set_option maxRecDepth 100000 in
theorem markIntSS_any (lo hi : Nat) (A : Option Addr) (n c k0 : Nat) (ll : List (List Int)) (w : World) (h : OwnG w lo hi (.slice A n c) ll) (hb : BdLL ll) (hk0 : k0 ≤ 100000000) :
    Calls Try.prog 44 #[.slice A n c, .int .i64 k0] w fun e w' => e = .returned (.int .i64 ((k0 + sumLen ll ll.length : Nat) : Int)) ∧ OwnG w' lo hi (.slice A n c) (seqLL k0 ll) ∧ Chg lo hi w w' := by
  have hl : Hid (ll.length = n) := by
    obtain ⟨A', n', c', e, hl⟩ := h.form
    cases e; exact hl
  obtain ⟨hn, hin, hm⟩ := hb
  have hn' : n ≤ 1048576 := by rw [← hl.out]; exact hn
  go_enter Try.func44, Try.ntmps44
  go_wp2_with fail
  go_loopw [1, 5] (fun q i wr => ∃ k : Nat, k ≤ n ∧ i = .int .i64 k ∧ q = .int .i64 ((k0 + sumLen ll k : Nat) : Int) ∧ OwnG wr lo hi (.slice A n c) (mixLL k0 ll k) ∧ Chg lo hi w wr) (fun _ i _ => n - (intOf i).toNat)
  case atStart => exact ⟨0, by omega, rfl, by rw [sumLen_zero]; rfl, by rw [mixLL_zero]; exact h, Chg.refl _ _ _⟩
  case round =>
    obtain ⟨k, hk, rfl, rfl, G, C9⟩ := hrel
    by_cases hlt : k < n
    · have hkl : Hid (k < ll.length) := by show _ < _; rw [hl.out]; exact hlt
      obtain ⟨g, o, u, pre, post, rfl, hc, R, hback⟩ := G.at hlt
      have hmx := Lib.hid (mixLL_at (k0 := k0) (k := k) hkl.out)
      have hs := Lib.hid (sumLen_succ hkl.out)
      have hle : k0 + sumLen ll k ≤ 1000000000000 := by
        have := sumLen_mono (ll := ll) (j := k) (k := ll.length) (by have := hkl.out; omega) (Nat.le_refl _)
        omega
      have hle2 : (ll.getD k []).length ≤ 1048576 := hin k
      rw [hmx.out, if_neg (Nat.lt_irrefl k)] at R
      have hset := Lib.hid (mixLL_set (k0 := k0) hkl.out)
      clear hmx
      generalize ll.getD k [] = rk at R hs hle2 hset
      go_wp2_with fail
      refine (markIntS_L (pre := pre) (post := post) (k0 + sumLen ll k) _ R rfl hle hle2).mono ?_
      rintro e w2 ⟨rfl, R2, c2⟩
      have G2 := hback w2 _ R2
      rw [hset.out] at G2
      go_wp2
      go_roundw
      case rel => exact ⟨k + 1, by omega, by go_num, by rw [hs.out]; congr 2; omega, G2, C9.trans c2⟩
      case measure => simp [intOf]; omega
    · have hkn : k = ll.length := by have := hl.out; omega
      have HK := Lib.hid hkn
      clear hkn
      go_wp2
      go_ret
      rw [HK.out] at G ⊢
      exact ⟨rfl, G, C9⟩
theorem markIntSS_L {lo hi : Nat} {v : Value} {ll : List (List Int)} {w : World} (k0 : Nat) (K : Int) (h : OwnG w lo hi v ll) (hK : K = k0) (hk : k0 ≤ 100000000) (ht : BdLL ll) :
    Calls Try.prog 44 #[v, .int .i64 K] w fun e w' => e = .returned (.int .i64 ((k0 + sumLen ll ll.length : Nat) : Int)) ∧ OwnG w' lo hi v (seqLL k0 ll) ∧ Chg lo hi w w' := by
  obtain ⟨A, n, c, rfl, _⟩ := h.form
  subst hK
  exact markIntSS_any lo hi A n c k0 ll w h ht hk
set_option maxRecDepth 100000 in
theorem heldIntSS_any (A : Option Addr) (n c k0 : Nat) (ll : List (List Int)) (w : World) (h : RdGr w (.slice A n c) (seqLL k0 ll)) (hb : BdLL ll) (hk0 : k0 ≤ 100000000) :
    Calls Try.prog 76 #[.slice A n c, .int .i64 k0] w fun e w' => e = .returned (.int .i64 ((k0 + sumLen ll ll.length : Nat) : Int)) ∧ w = w' := by
  have hl : Hid (ll.length = n) := by show _ = _; rw [← seqLL_len k0 ll]; exact h.len
  obtain ⟨hn, hin, hm⟩ := hb
  have hn' : n ≤ 1048576 := by rw [← hl.out]; exact hn
  go_enter Try.func76, Try.ntmps76
  go_wp2_with fail
  go_loop [1, 5] (fun q i => ∃ k : Nat, k ≤ n ∧ i = .int .i64 k ∧ q = .int .i64 ((k0 + sumLen ll k : Nat) : Int)) (fun _ i => n - (intOf i).toNat)
  case atStart => exact ⟨0, by omega, rfl, by rw [sumLen_zero]; rfl⟩
  case round =>
    obtain ⟨k, hk, rfl, rfl⟩ := hrel
    by_cases hlt : k < n
    · have hkl : Hid (k < ll.length) := by show _ < _; rw [hl.out]; exact hlt
      obtain ⟨g, o, u, rfl, hg, hc, hr, _⟩ := h.at hlt
      have hs := Lib.hid (sumLen_succ hkl.out)
      have hle : k0 + sumLen ll k ≤ 1000000000000 := by
        have := sumLen_mono (ll := ll) (j := k) (k := ll.length) (by have := hkl.out; omega) (Nat.le_refl _)
        omega
      have hle2 : (ll.getD k []).length ≤ 1048576 := hin k
      rw [seqLL, mixLL_at hkl.out, if_pos hkl.out] at hr
      generalize ll.getD k [] = rk at hr hs hle2
      go_wp2_with fail
      refine (heldIntS_L rk.length (k0 + sumLen ll k) _ (RdL.one hr) rfl hle hle2).mono ?_
      rintro e w2 ⟨rfl, rfl⟩
      go_wp2
      go_round
      case rel => exact ⟨k + 1, by omega, by go_num, by rw [hs.out]; congr 2; omega⟩
      case measure => simp [intOf]; omega
    · have hkn : k = ll.length := by have := hl.out; omega
      have HK := Lib.hid hkn
      clear hkn
      go_wp2
      go_ret
      rw [HK.out]
      exact ⟨rfl, rfl⟩
theorem heldIntSS_L {v : Value} {w : World} (ll : List (List Int)) (k0 : Nat) (K : Int) (h : RdGr w v (seqLL k0 ll)) (hK : K = k0) (hk : k0 ≤ 100000000) (ht : BdLL ll) :
    Calls Try.prog 76 #[v, .int .i64 K] w fun e w' => e = .returned (.int .i64 ((k0 + sumLen ll ll.length : Nat) : Int)) ∧ w = w' := by
  obtain ⟨us, e, ⟨A, n, c, rfl, hV⟩, hr⟩ := id h
  subst hK
  exact heldIntSS_any A n c k0 ll w h ht hk
end Go.Proofs.Ytodnahpegecpiaa
namespace Go.Proofs.Ytodnahpegecpiaa
set_option linter.unusedSimpArgs false
set_option linter.unusedVariables false
open Go.RowKit
theorem run_append_row {w : World} {base ty : Nat} {v : Value} {us : List Value} (hown : OwnD w base v (.rows us)) {g : Nat} {u : Value} (hu : u.oneCell' = true) (hb : Box w g #[u] 25) (hlen : us.length ≤ 1099511627776) (hbase : base ≤ w.heap.size) :
    ∃ v' w', (Builtin.append_ #[54, 54] ty #[v, .slice (some ⟨g, 0, none⟩) 1 1]).run Try.prog w = .ok v' w' ∧ OwnD w' base v' (.rows (us ++ [u])) ∧ w.grownBy w' v.ownBlock ∧ (v'.ownBlock = v.ownBlock ∨ v'.ownBlock = some w.heap.size) := by
  obtain ⟨i0, hi, hz0, hz1, hz2⟩ := info_parts ints_info
  obtain ⟨v', w', h1, h2, h3, _, h5⟩ := run_append_own_at (P := Try.prog) w base 54 ty 25 i0 (.slice none 0 0) 1 24 Try.underlying54 hi hz0 hz1 hz2 rfl (by decide) v us.length us hown ⟨g, 0, none⟩ 1 1 [u] rfl
    (fun j x hx => by
      match j, hx with
      | 0, hx => simp at hx; subst hx; rw [Addr.add_lit]; exact hb.cell 0) (by intro x hx; simp at hx; subst hx; exact hu) (by unfold maxLen; omega) (by omega) hbase
  refine ⟨v', w', h1, ?_, h3, h5⟩
  show World.ownsRow _ _ _ _ _ (us ++ [u]).length _
  rw [List.length_append]
  exact h2
/-- A slice has grown, and one more is laid behind the others. -/
theorem ownGrow {w w' : World} {lo hi g1 g2 : Nat} {v v' u : Value} {d d' d2 : Dat} {ls : List (Value × Dat)} (h : OwnL w lo hi ((v, d) :: ls)) (q : OwnL w g1 g2 [(u, d2)]) (hq : hi ≤ g1) (h1 : OwnD w' lo v' d') (hg : w.grownBy w' v.ownBlock)
    (hb : v'.ownBlock = v.ownBlock ∨ v'.ownBlock = some w.heap.size) : OwnL w' lo w'.heap.size ((v', d') :: (ls ++ [(u, d2)])) := by
  have hp := List.pairwise_cons.1 h.2.2.2
  have hs := hg.size
  have hlo := h.1
  have hhi := h.2.1
  have hv : ∀ k, v.ownBlock = some k → k < hi := (h.2.2.1 (v, d) (by simp)).2
  have hu := q.2.2.1 (u, d2) (by simp)
  have hq2 := q.2.1
  have hk : ∀ p ∈ ls, OwnD w lo p.1 p.2 ∧ ∀ k, p.1.ownBlock = some k → k < hi := fun p hpm => h.2.2.1 p (by simp [hpm])
  refine ⟨by omega, Nat.le_refl _, fun p hpm => ?_, List.pairwise_cons.2 ⟨fun p hpm => ?_, List.pairwise_append.2 ⟨hp.2, List.pairwise_singleton _ _, fun p hpm r hr => ?_⟩⟩⟩
  · simp only [List.mem_cons, List.mem_append, List.not_mem_nil, or_false] at hpm
    rcases hpm with rfl | hpm | rfl
    · exact ⟨h1, fun k hk => (h1.lt k hk).2⟩
    · obtain ⟨a, b⟩ := hk p hpm
      exact ⟨a.keepBlock fun k hkk => hg.block k (a.lt k hkk).2 fun e => hp.1 p hpm k e.symm hkk, fun k hkk => by have := b k hkk; omega⟩
    · refine ⟨(OwnD.mono hu.1 (by omega : lo ≤ g1)).keepBlock fun k hkk => hg.block k (hu.1.lt k hkk).2 fun e => ?_, fun k hkk => ?_⟩
      · have := hv k e.symm
        have := (hu.1.lt k hkk).1
        omega
      · have := hu.2 k hkk; omega
  · intro k hkv hkp
    simp only [List.mem_append, List.mem_cons, List.not_mem_nil, or_false] at hpm
    rcases hpm with hpm | rfl
    · rcases hb with hb | hb
      · exact hp.1 p hpm k (by rw [← hb]; exact hkv) hkp
      · rw [hb] at hkv; cases hkv
        have := (hk p hpm).2 _ hkp; omega
    · have h3 := (hu.1.lt k hkp).1
      have h4 := hu.2 k hkp
      rcases hb with hb | hb
      · have := hv k (by rw [← hb]; exact hkv); omega
      · rw [hb] at hkv; cases hkv; omega
  · simp at hr; subst hr
    intro k hkp hku
    have h3 := (hu.1.lt k hku).1
    have h4 := (hk p hpm).2 k hkp
    omega
theorem ownLit2 {w : World} {g : Nat} {a b : Int} (h : Box w g #[.int .i64 a, .int .i64 b] 3) : OwnL w g (g + 1) [(.slice (some ⟨g, 0, none⟩) 2 2, .ints [a, b])] := by
  refine ⟨by omega, h.lt, fun p hp => ?_, List.pairwise_singleton _ _⟩
  simp at hp; subst hp
  refine ⟨⟨rfl, .inr ⟨g, 2, _, rfl, Nat.le_refl _, h, Nat.le_refl _, by unfold maxLen; omega, rfl, rfl⟩⟩, fun k hk => ?_⟩
  simp [Value.ownBlock] at hk; omega
theorem OwnG.lit0 {w : World} {g : Nat} (h : Box w g #[] 25) : OwnG w g (g + 1) (.slice (some ⟨g, 0, none⟩) 0 0) [] := by
  refine ⟨[], rfl, by omega, h.lt, fun p hp => ?_, List.pairwise_singleton _ _⟩
  simp [gridL] at hp; subst hp
  refine ⟨⟨rfl, .inr ⟨g, 0, _, rfl, Nat.le_refl _, h, Nat.le_refl _, by unfold maxLen; omega, rfl, rfl⟩⟩, fun k hk => ?_⟩
  simp [Value.ownBlock] at hk; omega
theorem OwnG.none {w : World} {lo : Nat} (hs : lo ≤ w.heap.size) : OwnG w lo w.heap.size (.slice none 0 0) [] := by
  refine ⟨[], rfl, hs, Nat.le_refl _, fun p hp => ?_, List.pairwise_singleton _ _⟩
  simp [gridL] at hp; subst hp
  exact ⟨World.ownsRow_nil _ _ _ _, fun k hk => by cases hk⟩
theorem appendH_GG {ops : Array Oper} {Q : Exit → Act → World → Prop} {md : Region.Mode} {S : World → Prop} {i : Nat} {oi : Oper} {fuel : Nat} {listed : Array Bool} {a : Act} {w : World} (s x : Operand)
    (ho : oi.op = .call { callee := .builtin .append, args := #[s, x], argTypes := #[54, 54] })
    {lo hi : Nat} {v : Value} {ll : List (List Int)} (hs : a.eval s = v) (r : OwnG w lo hi v ll) {g g1 g2 : Nat} {A : Option Addr} {n c : Nat} {l : List Int} (hx : a.eval x = .slice (some ⟨g, 0, none⟩) 1 1) (hb : Box w g #[.slice A n c] 25) (q : OwnL w g1 g2 [(.slice A n c, .ints l)]) (hq : hi ≤ g1) (hlen : ll.length ≤ 1099511627776)
    (h : ∀ A' n' c' w', OwnG w' lo w'.heap.size (.slice A' n' c') (ll ++ [l]) → Chg lo hi w w' →
      S w' ∧ (S w' → wpAnyH Try.prog md ops Q S fuel (listed.setIfInBounds i true) (a.put oi.dst (.slice A' n' c')) w')) :
    StepH Try.prog md ops Q S fuel listed i oi a w := by
  obtain ⟨us, e, r⟩ := r
  have hown : OwnD w lo v (.rows us) := r.get (p := (v, .rows us)) (by simp [gridL])
  have hr1 := r.1
  have hr2 := r.2.1
  obtain ⟨v', w', hrun, h2, h3, h4⟩ := run_append_row (ty := oi.type) hown (u := .slice A n c) rfl hb (by omega) (by omega)
  have hc : Chg lo hi w w' := OwnL.chg (pre := []) (v := v) (d := .rows us) r h3
  obtain ⟨A', n', c', rfl⟩ := h2.form
  have hG : OwnG w' lo w'.heap.size (.slice A' n' c') (ll ++ [l]) := by
    refine ⟨us ++ [.slice A n c], by simp [e], ?_⟩
    have h5 := ownGrow (v := v) (d := .rows us) r q hq h2 h3 h4
    unfold gridL
    rw [List.map_append, List.zip_append (by simpa using e)]
    exact h5
  obtain ⟨h6, h7⟩ := h A' n' c' w' hG hc
  unfold StepH Oper.wp execOp
  simp only [ho, resolve, invoke, builtin, Sem.run_bind, Sem.run_pure, Result.andThen_ok, List.map_toArray, List.map_cons, List.map_nil, hs, hx, hrun]
  exact ⟨h6, h7 h6⟩
/-- The lists f 0, f 1, .. -/
def genLL (f : Nat → List Int) (n : Nat) : List (List Int) := (List.range n).map f
theorem genLL_len (f : Nat → List Int) (n : Nat) : (genLL f n).length = n := by simp [genLL]
theorem genLL_snoc (f : Nat → List Int) (n : Nat) : genLL f (n + 1) = genLL f n ++ [f n] := by simp [genLL, List.range_succ]
theorem genLL_at {f : Nat → List Int} {n j : Nat} (h : j < n) : (genLL f n).getD j [] = f j := by simp [genLL, List.getD, h]
theorem genLL_sum (f : Nat → List Int) (n c : Nat) (h : ∀ j, (f j).length = c) (k : Nat) (hk : k ≤ n) : sumLen (genLL f n) k = k * c := by
  induction k with
  | zero => simp [sumLen_zero]
  | succ k ih =>
    rw [sumLen_succ (by rw [genLL_len]; omega), ih (by omega), genLL_at (by omega), h, Nat.succ_mul]
theorem genLL_bd (f : Nat → List Int) (n c : Nat) (h : ∀ j, (f j).length = c) (hn : n ≤ 1048576) (hc : c ≤ 2) : BdLL (genLL f n) := by
  refine ⟨by rw [genLL_len]; exact hn, fun j => ?_, ?_⟩
  · by_cases hj : j < n
    · rw [genLL_at hj, h]; omega
    · simp [List.getD, genLL, hj]
  · rw [genLL_sum f n c h _ (by rw [genLL_len]; exact Nat.le_refl _), genLL_len]
    have : n * c ≤ n * 2 := Nat.mul_le_mul_left _ hc
    omega
theorem BdLL_nil : BdLL [] := ⟨by simp, by simp, by simp [sumLen]⟩
end Go.Proofs.Ytodnahpegecpiaa
namespace Go.Proofs.Ytodnahpegecpiaa
set_option linter.unusedSimpArgs false
set_option linter.unusedVariables false
open Go.RowKit
def ohF (o : List Int) (d : Int) (zs : List Int) (k : Nat) : List Int := [hashI (nth zs (nth o k).toNat) 999999, hashI (bits .xor .i64 (nth zs (nth o k).toNat) d) 999999]
def ohL (l : List (Int × Int × Int)) (o : List Int) (d : Int) (zs ts : List Int) : List (List Int) := if gbOk l o d zs ts then genLL (ohF o d zs) o.length else []
theorem ohL_yes {l : List (Int × Int × Int)} {o zs ts : List Int} {d : Int} (h : gbOk l o d zs ts = true) : ohL l o d zs ts = genLL (ohF o d zs) o.length := by simp [ohL, h]
theorem ohL_no {l : List (Int × Int × Int)} {o zs ts : List Int} {d : Int} (h : gbOk l o d zs ts = false) : ohL l o d zs ts = [] := by simp [ohL, h]
theorem ohL_bd (l : List (Int × Int × Int)) {o : List Int} (d : Int) (zs ts : List Int) (h : o.length ≤ 1048576) : BdLL (ohL l o d zs ts) := by
  unfold ohL; split
  · exact genLL_bd _ _ 2 (fun _ => rfl) h (Nat.le_refl _)
  · exact BdLL_nil
set_option maxRecDepth 100000 in
set_option maxHeartbeats 2000000 in
theorem sOutputHashes_L {cA0 : Option Addr} {cn0 cc0 : Nat} {cL0 : List (Int × Int × Int)} {cA1 : Option Addr} {cn1 cc1 : Nat} {cL1 : List Int} {gA1 : Option Addr} {gn1 gc1 : Nat} {gL1 : List Int} {gA2 : Option Addr} {gn2 gc2 : Nat} {gL2 : List Int} {w : World} (cH : RdL w [((.slice cA0 cn0 cc0), .gates cL0), ((.slice cA1 cn1 cc1), .ints cL1)]) (cL0n : cL0.length ≤ 1048576) (cL1n : cL1.length ≤ 1048576) (gI0 : Int) (gH : RdL w [((.slice gA1 gn1 gc1), .ints gL1), ((.slice gA2 gn2 gc2), .ints gL2)]) (gL1n : gL1.length ≤ 1048576) (gL2n : gL2.length ≤ 1048576) :
    Calls Try.prog 74 #[.agg #[(.slice cA0 cn0 cc0), (.slice cA1 cn1 cc1)], .agg #[.int .i64 gI0, (.slice gA1 gn1 gc1), (.slice gA2 gn2 gc2)]] w fun e w' => ∃ rA0 rn0 rc0, e = .returned (.slice rA0 rn0 rc0) ∧ OwnG w' w.heap.size w'.heap.size (.slice rA0 rn0 rc0) (ohL cL0 cL1 gI0 gL1 gL2) ∧ Below w.heap.size w w' := by
  have cL0g : Gates w cA0 cn0 cL0 := RdG.toG (cH ((.slice cA0 cn0 cc0), .gates cL0) (by simp))
  have cL0l := Lib.hid cL0g.1
  have cL0m : cn0 ≤ 1048576 := by rw [← cL0l.out]; exact cL0n
  have cL1i : Ints w cA1 cn1 cL1 := Rd.toInts (cH ((.slice cA1 cn1 cc1), .ints cL1) (by simp))
  have cL1l := Lib.hid cL1i.len
  have cL1m : cn1 ≤ 1048576 := by rw [← cL1l.out]; exact cL1n
  have gL1i : Ints w gA1 gn1 gL1 := Rd.toInts (gH ((.slice gA1 gn1 gc1), .ints gL1) (by simp))
  have gL1l := Lib.hid gL1i.len
  have gL1m : gn1 ≤ 1048576 := by rw [← gL1l.out]; exact gL1n
  have gL2i : Ints w gA2 gn2 gL2 := Rd.toInts (gH ((.slice gA2 gn2 gc2), .ints gL2) (by simp))
  have gL2l := Lib.hid gL2i.len
  have gL2m : gn2 ≤ 1048576 := by rw [← gL2l.out]; exact gL2n
  cases k1 : gbOk cL0 cL1 gI0 gL1 gL2 with
  | false =>
    go_enter Try.func74, Try.ntmps74
    go_wp2_with fail
    generalize hw1 : World.alloc _ _ = w1
    have z1 : w.heap.size + 1 + 1 + 1 ≤ w1.heap.size := by rw [← hw1]; simp
    have B1 : Below w.heap.size w w1 := by rw [← hw1]; repeat (with_reducible (first | assumption | exact Below.refl _ _ | refine Below.alloc ?_ (by first | omega | (simp; done) | (simp; omega)) _ | refine Below.setCell ?_ (by first | omega | (simp; done) | (simp; omega)) _ | refine Below.drew ?_ | refine below_drewN ?_ _))
    have xc_ : Box w1 (w.heap.size) #[(.slice cA0 cn0 cc0), (.slice cA1 cn1 cc1)] 27 := (by rw [← hw1]; exact (((Box.new (g := w.heap.size) _ #[(.slice cA0 cn0 cc0), (.slice cA1 cn1 cc1)] 27 (by simp)).alloc _).alloc _))
    have xc := xc_; clear xc_
    have xg_ : Box w1 (w.heap.size + 1) #[.int .i64 gI0, (.slice gA1 gn1 gc1), (.slice gA2 gn2 gc2)] 33 := (by rw [← hw1]; exact ((Box.new (g := w.heap.size + 1) _ #[.int .i64 gI0, (.slice gA1 gn1 gc1), (.slice gA2 gn2 gc2)] 33 (by simp)).alloc _))
    have xg := xg_; clear xg_
    have xo_ : Box w1 (w.heap.size + 1 + 1) #[] 25 := (by rw [← hw1]; exact (Box.new (g := w.heap.size + 1 + 1) _ #[] 25 (by simp)))
    have xo := xo_; clear xo_
    clear hw1
    have ro := OwnG.lit0 xo
    refine wp_loop_rounds 1 ?_
    rw [rounds_succ]
    by_cases h0 : cn1 = 0
    · subst h0
      obtain ⟨cxc_0, cxc_1, fxc_0, fxc_1⟩ := xc.two
      have l_xc_0 : w.heap.size < w1.heap.size := by omega
      go_wp2
      refine bodyPost_ret (v := .slice (some ⟨w.heap.size + 1 + 1, 0, none⟩) 0 0) (by simp [results, go_sem, Try.results74]) rfl ⟨_, _, _, rfl, ?_, ?_⟩
      · rw [ohL_no k1]; exact OwnG.mono ro (by omega) (by first | omega | (simp [size_drew]; done) | (simp [size_drew]; omega)) (Nat.le_refl _)
      · repeat (with_reducible (first | assumption | exact Below.refl _ _ | refine Below.alloc ?_ (by first | omega | (simp; done) | (simp; omega)) _ | refine Below.setCell ?_ (by first | omega | (simp; done) | (simp; omega)) _ | refine Below.drew ?_ | refine below_drewN ?_ _))
    · have h1 : 0 < cn1 := by omega
      obtain ⟨cxc_0, cxc_1, fxc_0, fxc_1⟩ := xc.two
      have l_xc_0 : w.heap.size < w1.heap.size := by omega
      obtain ⟨cxg_0, cxg_1, cxg_2, fxg_0, fxg_1, fxg_2⟩ := xg.three
      have l_xg_0 : w.heap.size + 1 < w1.heap.size := by omega
      go_wp2_with fail
      refine (sGarbledOk_L (RdL.b cH) cL0n cL1n gI0 (RdL.b gH) gL1n gL2n).mono ?_
      rintro e w2 ⟨rfl, b2⟩
      clear cxc_0 cxc_1 fxc_0 fxc_1 l_xc_0 cxg_0 cxg_1 cxg_2 fxg_0 fxg_1 fxg_2 l_xg_0
      have z2 := b2.size
      try simp only [World.size_alloc, World.size_setCell, size_drew] at z2
      have B2 : Below w.heap.size w w2 := Below.t b2
      have ro_ := ro.below b2
      clear ro; have ro := ro_; clear ro_
      have xc_ : Box w2 (w.heap.size) #[(.slice cA0 cn0 cc0), (.slice cA1 cn1 cc1)] 27 := xc.below b2 (by first | omega | (simp [size_drew]; done) | (simp [size_drew]; omega))
      clear xc; have xc := xc_; clear xc_
      have xg_ : Box w2 (w.heap.size + 1) #[.int .i64 gI0, (.slice gA1 gn1 gc1), (.slice gA2 gn2 gc2)] 33 := xg.below b2 (by first | omega | (simp [size_drew]; done) | (simp [size_drew]; omega))
      clear xg; have xg := xg_; clear xg_
      rw [k1]
      obtain ⟨cxc_0, cxc_1, fxc_0, fxc_1⟩ := xc.two
      have l_xc_0 : w.heap.size < w2.heap.size := by omega
      go_wp2
      refine bodyPost_ret (v := .slice (some ⟨w.heap.size + 1 + 1, 0, none⟩) 0 0) (by simp [results, go_sem, Try.results74]) rfl ⟨_, _, _, rfl, ?_, ?_⟩
      · rw [ohL_no k1]; exact OwnG.mono ro (by omega) (by first | omega | (simp [size_drew]; done) | (simp [size_drew]; omega)) (Nat.le_refl _)
      · repeat (with_reducible (first | assumption | exact Below.refl _ _ | refine Below.alloc ?_ (by first | omega | (simp; done) | (simp; omega)) _ | refine Below.setCell ?_ (by first | omega | (simp; done) | (simp; omega)) _ | refine Below.drew ?_ | refine below_drewN ?_ _))
  | true =>
    go_enter Try.func74, Try.ntmps74
    have HO2 := Lib.hid k1
    have HK := Lib.hid (gb_circ k1)
    have HO := Lib.hid cL1i
    have HZ := Lib.hid gL1i
    have hzn := Lib.hid (show gn1 = cn0 by have := (gb_zs k1).1; have := gL1l.out; have := cL0l.out; omega)
    go_wp2_with fail
    generalize hw1 : World.alloc _ _ = w1
    have z1 : w.heap.size + 1 + 1 + 1 ≤ w1.heap.size := by rw [← hw1]; simp
    have B1 : Below w.heap.size w w1 := by rw [← hw1]; repeat (with_reducible (first | assumption | exact Below.refl _ _ | refine Below.alloc ?_ (by first | omega | (simp; done) | (simp; omega)) _ | refine Below.setCell ?_ (by first | omega | (simp; done) | (simp; omega)) _ | refine Below.drew ?_ | refine below_drewN ?_ _))
    have xc_ : Box w1 (w.heap.size) #[(.slice cA0 cn0 cc0), (.slice cA1 cn1 cc1)] 27 := (by rw [← hw1]; exact (((Box.new (g := w.heap.size) _ #[(.slice cA0 cn0 cc0), (.slice cA1 cn1 cc1)] 27 (by simp)).alloc _).alloc _))
    have xc := xc_; clear xc_
    have xg_ : Box w1 (w.heap.size + 1) #[.int .i64 gI0, (.slice gA1 gn1 gc1), (.slice gA2 gn2 gc2)] 33 := (by rw [← hw1]; exact ((Box.new (g := w.heap.size + 1) _ #[.int .i64 gI0, (.slice gA1 gn1 gc1), (.slice gA2 gn2 gc2)] 33 (by simp)).alloc _))
    have xg := xg_; clear xg_
    have xo_ : Box w1 (w.heap.size + 1 + 1) #[] 25 := (by rw [← hw1]; exact (Box.new (g := w.heap.size + 1 + 1) _ #[] 25 (by simp)))
    have xo := xo_; clear xo_
    clear hw1
    have ro := OwnG.lit0 xo
    go_loopw [5, 6] (fun v i wr => ∃ (k : Nat) (A : Option Addr) (n c : Nat), k ≤ cn1 ∧ i = .int .i64 k ∧ v = .slice A n c ∧ Hid (OwnG wr (w.heap.size + 1 + 1) wr.heap.size (.slice A n c) (genLL (ohF cL1 gI0 gL1) k)) ∧ Hid (Box wr (w.heap.size) #[(.slice cA0 cn0 cc0), (.slice cA1 cn1 cc1)] 27) ∧ Hid (Box wr (w.heap.size + 1) #[.int .i64 gI0, (.slice gA1 gn1 gc1), (.slice gA2 gn2 gc2)] 33) ∧ Below w.heap.size w wr) (fun v i wr => cn1 - (intOf i).toNat)
    case atStart => exact ⟨0, _, _, _, by omega, rfl, rfl, OwnG.mono ro (by omega) (by first | omega | (simp [size_drew]; done) | (simp [size_drew]; omega)) (Nat.le_refl _), xc, xg, B1⟩
    case round =>
      obtain ⟨k, vA, vn, vc, hk, rfl, rfl, ro, xc, xg, B9⟩ := hrel
      obtain ⟨w9, hw9⟩ : ∃ x, x = wr := ⟨wr, rfl⟩
      subst hw9
      have ro := ro.out
      have xc := xc.out
      have zb_xc := xc.lt
      have xg := xg.out
      have zb_xg := xg.lt
      have hsn := Lib.hid (genLL_snoc (ohF cL1 gI0 gL1) k)
      have hgl := Lib.hid (genLL_len (ohF cL1 gI0 gL1) k)
      have z9 := B9.size
      have hro := ro.lo
      by_cases hlt : k < cn1
      · obtain ⟨cxc_0, cxc_1, fxc_0, fxc_1⟩ := xc.two
        have l_xc_0 : w.heap.size < w9.heap.size := by omega
        obtain ⟨cxg_0, cxg_1, cxg_2, fxg_0, fxg_1, fxg_2⟩ := xg.three
        have l_xg_0 : w.heap.size + 1 < w9.heap.size := by omega
        go_wp2_with fail
        refine (sGarbledOk_L (RdL.b cH) cL0n cL1n gI0 (RdL.b gH) gL1n gL2n).mono ?_
        rintro e w10 ⟨rfl, b10⟩
        clear cxc_0 cxc_1 fxc_0 fxc_1 l_xc_0 cxg_0 cxg_1 cxg_2 fxg_0 fxg_1 fxg_2 l_xg_0
        have z10 := b10.size
        try simp only [World.size_alloc, World.size_setCell, size_drew] at z10
        have B10 : Below w.heap.size w w10 := Below.t b10
        have ro_ := ro.below b10
        clear ro; have ro := ro_; clear ro_
        have xc_ : Box w10 (w.heap.size) #[(.slice cA0 cn0 cc0), (.slice cA1 cn1 cc1)] 27 := xc.below b10 (by first | omega | (simp [size_drew]; done) | (simp [size_drew]; omega))
        clear xc; have xc := xc_; clear xc_
        have xg_ : Box w10 (w.heap.size + 1) #[.int .i64 gI0, (.slice gA1 gn1 gc1), (.slice gA2 gn2 gc2)] 33 := xg.below b10 (by first | omega | (simp [size_drew]; done) | (simp [size_drew]; omega))
        clear xg; have xg := xg_; clear xg_
        rw [k1]
        clear k1
        obtain ⟨m, hm, hmlt⟩ := circ_out HK.out (k := k) (by rw [cL1l.out]; exact hlt)
        have hm1 := Lib.hid hm
        have hmlt : m < cn0 := by rw [← cL0l.out]; exact hmlt
        obtain ⟨g, o, rfl, hg, hc⟩ := HO.out.block (by omega)
        have hco := hc k hlt
        clear hc
        rw [hm1.out] at hco
        clear hm
        have hmz : m < gn1 := by have := hzn.out; omega
        obtain ⟨g2, g2o, rfl, g2h, hc⟩ := HZ.out.block (by omega)
        have hcz := hc m (by omega)
        clear hc
        have hF := Lib.hid (show ohF cL1 gI0 gL1 k = [hashI (nth gL1 m) 999999, hashI (bits .xor .i64 (nth gL1 m) gI0) 999999] by rw [ohF, hm1.out]; rfl)
        obtain ⟨cxc_0, cxc_1, fxc_0, fxc_1⟩ := xc.two
        have l_xc_0 : w.heap.size < w10.heap.size := by omega
        obtain ⟨cxg_0, cxg_1, cxg_2, fxg_0, fxg_1, fxg_2⟩ := xg.three
        have l_xg_0 : w.heap.size + 1 < w10.heap.size := by omega
        go_wp2_with fail
        clear cxc_0 cxc_1 fxc_0 fxc_1 l_xc_0 cxg_0 cxg_1 cxg_2 fxg_0 fxg_1 fxg_2 l_xg_0
        refine wp_region_held_drew (S := fun W => W.cell? ⟨w.heap.size, 0, none⟩ = some ((.slice cA0 cn0 cc0)) ∧ W.cell? ⟨w.heap.size, 1, none⟩ = some (.slice (some ⟨g, o, none⟩) cn1 cc1) ∧ W.cell? ⟨w.heap.size + 1, 0, none⟩ = some (.int .i64 gI0) ∧ W.cell? ⟨w.heap.size + 1, 1, none⟩ = some (.slice (some ⟨g2, g2o, none⟩) gn1 gc1) ∧ W.cell? ⟨w.heap.size + 1, 2, none⟩ = some ((.slice gA2 gn2 gc2)) ∧ W.cell? ⟨g, o + k, none⟩ = some (.int .i64 (m : Int)) ∧ W.cell? ⟨g2, g2o + m, none⟩ = some (.int .i64 (nth gL1 m))) (by kernel_rfl) ⟨xc.drew.two.1, xc.drew.two.2.1, xg.drew.three.1, xg.drew.three.2.1, xg.drew.three.2.2.1, (cellB hg hco), (cellB g2h hcz)⟩ (fun hS => ?_)
        (refine tk 0 hS ?_; (try simp only [Act.put, layA, layB, layC]))
        (refine tk 1 hS ?_; (try simp only [Act.put, layA, layB, layC]))
        (refine tk 2 hS ?_; (try simp only [Act.put, layA, layB, layC]))
        (refine tk 3 hS ?_; (try simp only [Act.put, layA, layB, layC]))
        (refine tk 4 hS ?_; (try simp only [Act.put, layA, layB, layC]))
        (refine tk 5 hS ?_; (try simp only [Act.put, layA, layB, layC]))
        (refine tk 6 hS ?_; (try simp only [Act.put, layA, layB, layC]))
        (refine tk 7 hS ?_; (try simp only [Act.put, layA, layB, layC]))
        (refine tk 8 hS ?_; (try simp only [Act.put, layA, layB, layC]))
        (refine tk 9 hS ?_; (try simp only [Act.put, layA, layB, layC]))
        clear hS
        refine wpAnyH_done (by kernel_rfl) ?_ _
        generalize hw11 : World.drew _ = w11
        have z11 : w10.heap.size ≤ w11.heap.size := by rw [← hw11]; simp [size_drew]
        have B11 : Below w.heap.size w w11 := by rw [← hw11]; repeat (with_reducible (first | assumption | exact Below.refl _ _ | refine Below.alloc ?_ (by first | omega | (simp; done) | (simp; omega)) _ | refine Below.setCell ?_ (by first | omega | (simp; done) | (simp; omega)) _ | refine Below.drew ?_ | refine below_drewN ?_ _))
        have hK : ∀ k, k < w10.heap.size → w11.heap[k]? = w10.heap[k]? := by
          intro k hk; rw [← hw11]
          repeat (first | rfl | refine (Below.heap_alloc _ _ _ (by first | omega | (simp; omega))).trans ?_)
        have ro_ := ro.keepBlock (w' := w11) (by omega) (fun k h1 h2 => hK k  (by have := ro.lo.2; omega))
        clear ro; have ro := ro_; clear ro_
        have xc_ : Box w11 (w.heap.size) #[(.slice cA0 cn0 cc0), .slice (some ⟨g, o, none⟩) cn1 cc1] 27 := (by rw [← hw11]; exact xc)
        clear xc; have xc := xc_; clear xc_
        have xg_ : Box w11 (w.heap.size + 1) #[.int .i64 gI0, .slice (some ⟨g2, g2o, none⟩) gn1 gc1, (.slice gA2 gn2 gc2)] 33 := (by rw [← hw11]; exact xg)
        clear xg; have xg := xg_; clear xg_
        clear hw11 hK
        obtain ⟨cxg_0, cxg_1, cxg_2, fxg_0, fxg_1, fxg_2⟩ := xg.three
        have l_xg_0 : w.heap.size + 1 < w11.heap.size := by omega
        go_wp2_with fail
        clear cxg_0 cxg_1 cxg_2 fxg_0 fxg_1 fxg_2 l_xg_0
        refine wp_region_held_drew (S := fun W => W.cell? ⟨w.heap.size + 1, 0, none⟩ = some (.int .i64 gI0) ∧ W.cell? ⟨w.heap.size + 1, 1, none⟩ = some (.slice (some ⟨g2, g2o, none⟩) gn1 gc1) ∧ W.cell? ⟨w.heap.size + 1, 2, none⟩ = some ((.slice gA2 gn2 gc2))) (by kernel_rfl) ⟨xg.drew.three.1, xg.drew.three.2.1, xg.drew.three.2.2.1⟩ (fun hS => ?_)
        (refine tk 0 hS ?_; (try simp only [Act.put, layA, layB, layC]))
        (refine tk 1 hS ?_; (try simp only [Act.put, layA, layB, layC]))
        (refine tk 3 hS ?_; (try simp only [Act.put, layA, layB, layC]))
        (refine tk 4 hS ?_; (try simp only [Act.put, layA, layB, layC]))
        (refine tk 5 hS ?_; (try simp only [Act.put, layA, layB, layC]))
        (refine tk 6 hS ?_; (try simp only [Act.put, layA, layB, layC]))
        refine on 2 ?_
        refine callH (by go_simp; (first | done | with_reducible rfl | exact ⟨rfl, rfl⟩)) ?_
        go_at_call 101
        refine (l20Hash_any _ _).mono ?_
        rintro e w_ ⟨rfl, rfl⟩
        refine ⟨_, rfl, hS, fun hS => ?_⟩
        (try simp only [Act.put, layA, layB, layC])
        refine on 7 ?_
        refine callH (by go_simp; (first | done | with_reducible rfl | exact ⟨rfl, rfl⟩)) ?_
        go_at_call 101
        refine (l20Hash_any _ _).mono ?_
        rintro e w_ ⟨rfl, rfl⟩
        refine ⟨_, rfl, hS, fun hS => ?_⟩
        (try simp only [Act.put, layA, layB, layC])
        refine on 8 ?_
        refine valueH (by go_simp; (first | done | with_reducible rfl | exact ⟨rfl, rfl⟩)) ?_ (fun hS_ => ?_)
        · exact ⟨(xg.alloc _).drew.three.1, (xg.alloc _).drew.three.2.1, (xg.alloc _).drew.three.2.2.1⟩
        clear hS
        have hS := hS_
        clear hS_
        (try simp only [Act.put, layA, layB, layC])
        refine on 9 ?_
        refine valueH (by go_simp; (first | done | with_reducible rfl | exact ⟨rfl, rfl⟩)) ?_ (fun hS_ => ?_)
        · exact ⟨((xg.alloc _).alloc _).drew.three.1, ((xg.alloc _).alloc _).drew.three.2.1, ((xg.alloc _).alloc _).drew.three.2.2.1⟩
        clear hS
        have hS := hS_
        clear hS_
        (try simp only [Act.put, layA, layB, layC])
        refine on 10 ?_
        refine appendH_GG (.tmp 30) (.tmp 39) rfl rfl (((ro.alloc _).alloc _).drew) rfl ((Box.new (g := w11.heap.size + 1) _ #[.slice (some ⟨w11.heap.size, 0, none⟩) 2 2] 25 (by simp)).drew) (ownLit2 (((Box.new (g := w11.heap.size) _ #[.int .i64 (hashI (nth gL1 m) 999999), .int .i64 (hashI (bits .xor .i64 (nth gL1 m) gI0) 999999)] 3 (by simp)).alloc _).drew)) (by omega) (by have := hgl.out; omega) ?_
        intro qA qn qc w12 ro_ c12
        have z12 := c12.size
        (try simp only [World.size_alloc, World.size_setCell, size_drew] at z12)
        have B12 : Below w.heap.size w w12 := Below.trans (b := _) (by repeat (with_reducible (first | assumption | exact Below.refl _ _ | refine Below.alloc ?_ (by first | omega | (simp; done) | (simp; omega)) _ | refine Below.setCell ?_ (by first | omega | (simp; done) | (simp; omega)) _ | refine Below.drew ?_ | refine below_drewN ?_ _))) (c12.below (by omega) (by first | omega | (simp [size_drew]; done) | (simp [size_drew]; omega)))
        clear ro; have ro := ro_; clear ro_
        have xc_ : Box w12 (w.heap.size) #[(.slice cA0 cn0 cc0), .slice (some ⟨g, o, none⟩) cn1 cc1] 27 := (((xc.alloc _).alloc _).drew).chg c12 (by omega)
        clear xc; have xc := xc_; clear xc_
        have xg_ : Box w12 (w.heap.size + 1) #[.int .i64 gI0, .slice (some ⟨g2, g2o, none⟩) gn1 gc1, (.slice gA2 gn2 gc2)] 33 := (((xg.alloc _).alloc _).drew).chg c12 (by omega)
        clear xg; have xg := xg_; clear xg_
        have xl_ : Box w12 (w11.heap.size) #[.int .i64 (hashI (nth gL1 m) 999999), .int .i64 (hashI (bits .xor .i64 (nth gL1 m) gI0) 999999)] 3 := (((Box.new (g := w11.heap.size) _ #[.int .i64 (hashI (nth gL1 m) 999999), .int .i64 (hashI (bits .xor .i64 (nth gL1 m) gI0) 999999)] 3 (by simp)).alloc _).drew).chg c12 (by omega)
        have xl := xl_; clear xl_
        have xr_ : Box w12 (w11.heap.size + 1) #[.slice (some ⟨w11.heap.size, 0, none⟩) 2 2] 25 := ((Box.new (g := w11.heap.size + 1) _ #[.slice (some ⟨w11.heap.size, 0, none⟩) 2 2] 25 (by simp)).drew).chg c12 (by omega)
        have xr := xr_; clear xr_
        clear xr xl
        refine ⟨⟨xg.three.1, xg.three.2.1, xg.three.2.2.1⟩, fun hS_ => ?_⟩
        clear hS; have hS := hS_; clear hS_
        (try simp only [Act.put, layA, layB, layC])
        (refine tk 11 hS ?_; (try simp only [Act.put, layA, layB, layC]))
        clear hS
        refine wpAnyH_done (by kernel_rfl) ?_ _
        rw [← hF.out] at ro
        go_wp2
        go_roundw
        case rel => exact ⟨k + 1, _, _, _, by omega, by go_num, rfl, by rw [hsn.out]; exact OwnG.mono ro (by omega) (by first | omega | (simp [size_drew]; done) | (simp [size_drew]; omega)) (Nat.le_refl _), xc, xg, B12⟩
        case measure => simp [intOf]; omega
      · have hkn : k = cn1 := by omega
        obtain ⟨cxc_0, cxc_1, fxc_0, fxc_1⟩ := xc.two
        have l_xc_0 : w.heap.size < w9.heap.size := by omega
        go_wp2
        refine bodyPost_ret (v := .slice vA vn vc) (by simp [results, go_sem, Try.results74]) rfl ⟨_, _, _, rfl, ?_, ?_⟩
        · rw [ohL_yes HO2.out, cL1l.out, ← hkn]; exact OwnG.mono ro (by omega) (by first | omega | (simp [size_drew]; done) | (simp [size_drew]; omega)) (Nat.le_refl _)
        · repeat (with_reducible (first | assumption | exact Below.refl _ _ | refine Below.alloc ?_ (by first | omega | (simp; done) | (simp; omega)) _ | refine Below.setCell ?_ (by first | omega | (simp; done) | (simp; omega)) _ | refine Below.drew ?_ | refine below_drewN ?_ _))
set_option maxRecDepth 100000 in
set_option maxHeartbeats 2000000 in
theorem iOutputHashes_L {cA0 : Option Addr} {cn0 cc0 : Nat} {cL0 : List (Int × Int × Int)} {cA1 : Option Addr} {cn1 cc1 : Nat} {cL1 : List Int} {gA1 : Option Addr} {gn1 gc1 : Nat} {gL1 : List Int} {gA2 : Option Addr} {gn2 gc2 : Nat} {gL2 : List Int} {w : World} (cH : RdL w [((.slice cA0 cn0 cc0), .gates cL0), ((.slice cA1 cn1 cc1), .ints cL1)]) (cL0n : cL0.length ≤ 1048576) (cL1n : cL1.length ≤ 1048576) (gI0 : Int) (gH : RdL w [((.slice gA1 gn1 gc1), .ints gL1), ((.slice gA2 gn2 gc2), .ints gL2)]) (gL1n : gL1.length ≤ 1048576) (gL2n : gL2.length ≤ 1048576) :
    Calls Try.prog 75 #[.agg #[(.slice cA0 cn0 cc0), (.slice cA1 cn1 cc1)], .agg #[.int .i64 gI0, (.slice gA1 gn1 gc1), (.slice gA2 gn2 gc2)]] w fun e w' => ∃ rA0 rn0 rc0, e = .returned (.slice rA0 rn0 rc0) ∧ OwnG w' w.heap.size w'.heap.size (.slice rA0 rn0 rc0) (ohL cL0 cL1 gI0 gL1 gL2) ∧ Below w.heap.size w w' := by
  have cL0g : Gates w cA0 cn0 cL0 := RdG.toG (cH ((.slice cA0 cn0 cc0), .gates cL0) (by simp))
  have cL0l := Lib.hid cL0g.1
  have cL0m : cn0 ≤ 1048576 := by rw [← cL0l.out]; exact cL0n
  have cL1i : Ints w cA1 cn1 cL1 := Rd.toInts (cH ((.slice cA1 cn1 cc1), .ints cL1) (by simp))
  have cL1l := Lib.hid cL1i.len
  have cL1m : cn1 ≤ 1048576 := by rw [← cL1l.out]; exact cL1n
  have gL1i : Ints w gA1 gn1 gL1 := Rd.toInts (gH ((.slice gA1 gn1 gc1), .ints gL1) (by simp))
  have gL1l := Lib.hid gL1i.len
  have gL1m : gn1 ≤ 1048576 := by rw [← gL1l.out]; exact gL1n
  have gL2i : Ints w gA2 gn2 gL2 := Rd.toInts (gH ((.slice gA2 gn2 gc2), .ints gL2) (by simp))
  have gL2l := Lib.hid gL2i.len
  have gL2m : gn2 ≤ 1048576 := by rw [← gL2l.out]; exact gL2n
  cases k1 : gbOk cL0 cL1 gI0 gL1 gL2 with
  | false =>
    go_enter Try.func75, Try.ntmps75
    go_wp2_with fail
    refine (iGarbledOk_L (RdL.b cH) cL0n cL1n gI0 (RdL.b gH) gL1n gL2n).mono ?_
    rintro e w1 ⟨rfl, b1⟩
    have z1 := b1.size
    try simp only [World.size_alloc, World.size_setCell, size_drew] at z1
    have B1 : Below w.heap.size w w1 := Below.t b1
    have xc_ : Box w1 (w.heap.size) #[(.slice cA0 cn0 cc0), (.slice cA1 cn1 cc1)] 27 := ((Box.new (g := w.heap.size) _ #[(.slice cA0 cn0 cc0), (.slice cA1 cn1 cc1)] 27 (by simp)).alloc _).below b1 (by first | omega | (simp [size_drew]; done) | (simp [size_drew]; omega))
    have xc := xc_; clear xc_
    have xg_ : Box w1 (w.heap.size + 1) #[.int .i64 gI0, (.slice gA1 gn1 gc1), (.slice gA2 gn2 gc2)] 33 := (Box.new (g := w.heap.size + 1) _ #[.int .i64 gI0, (.slice gA1 gn1 gc1), (.slice gA2 gn2 gc2)] 33 (by simp)).below b1 (by first | omega | (simp [size_drew]; done) | (simp [size_drew]; omega))
    have xg := xg_; clear xg_
    rw [k1]
    go_wp2
    refine bodyPost_ret (v := .slice none 0 0) (by simp [results, go_sem, Try.results75]) rfl ⟨_, _, _, rfl, ?_, ?_⟩
    · rw [ohL_no k1]; exact OwnG.none (by first | omega | (simp [size_drew]; done) | (simp [size_drew]; omega))
    · repeat (with_reducible (first | assumption | exact Below.refl _ _ | refine Below.alloc ?_ (by first | omega | (simp; done) | (simp; omega)) _ | refine Below.setCell ?_ (by first | omega | (simp; done) | (simp; omega)) _ | refine Below.drew ?_ | refine below_drewN ?_ _))
  | true =>
    go_enter Try.func75, Try.ntmps75
    go_wp2_with fail
    refine (iGarbledOk_L (RdL.b cH) cL0n cL1n gI0 (RdL.b gH) gL1n gL2n).mono ?_
    rintro e w1 ⟨rfl, b1⟩
    have z1 := b1.size
    try simp only [World.size_alloc, World.size_setCell, size_drew] at z1
    have B1 : Below w.heap.size w w1 := Below.t b1
    have xc_ : Box w1 (w.heap.size) #[(.slice cA0 cn0 cc0), (.slice cA1 cn1 cc1)] 27 := ((Box.new (g := w.heap.size) _ #[(.slice cA0 cn0 cc0), (.slice cA1 cn1 cc1)] 27 (by simp)).alloc _).below b1 (by first | omega | (simp [size_drew]; done) | (simp [size_drew]; omega))
    have xc := xc_; clear xc_
    have xg_ : Box w1 (w.heap.size + 1) #[.int .i64 gI0, (.slice gA1 gn1 gc1), (.slice gA2 gn2 gc2)] 33 := (Box.new (g := w.heap.size + 1) _ #[.int .i64 gI0, (.slice gA1 gn1 gc1), (.slice gA2 gn2 gc2)] 33 (by simp)).below b1 (by first | omega | (simp [size_drew]; done) | (simp [size_drew]; omega))
    have xg := xg_; clear xg_
    rw [k1]
    have HO2 := Lib.hid k1
    have HK := Lib.hid (gb_circ k1)
    have HO := Lib.hid cL1i
    have HZ := Lib.hid gL1i
    have hzn := Lib.hid (show gn1 = cn0 by have := (gb_zs k1).1; have := gL1l.out; have := cL0l.out; omega)
    clear k1
    obtain ⟨cxc_0, cxc_1, fxc_0, fxc_1⟩ := xc.two
    have l_xc_0 : w.heap.size < w1.heap.size := by omega
    have l_xc_1 : w.heap.size < w1.heap.size + 1 := by omega
    go_wp2_with fail
    clear cxc_0 cxc_1 fxc_0 fxc_1 l_xc_0 l_xc_1
    generalize hw2 : World.alloc _ _ = w2
    have z2 : w1.heap.size + 1 ≤ w2.heap.size := by rw [← hw2]; simp
    have B2 : Below w.heap.size w w2 := by rw [← hw2]; repeat (with_reducible (first | assumption | exact Below.refl _ _ | refine Below.alloc ?_ (by first | omega | (simp; done) | (simp; omega)) _ | refine Below.setCell ?_ (by first | omega | (simp; done) | (simp; omega)) _ | refine Below.drew ?_ | refine below_drewN ?_ _))
    have xc_ : Box w2 (w.heap.size) #[(.slice cA0 cn0 cc0), (.slice cA1 cn1 cc1)] 27 := (by rw [← hw2]; exact (xc.alloc _))
    clear xc; have xc := xc_; clear xc_
    have xg_ : Box w2 (w.heap.size + 1) #[.int .i64 gI0, (.slice gA1 gn1 gc1), (.slice gA2 gn2 gc2)] 33 := (by rw [← hw2]; exact (xg.alloc _))
    clear xg; have xg := xg_; clear xg_
    have xo_ : Box w2 (w1.heap.size) #[] 25 := (by rw [← hw2]; exact (Box.new (g := w1.heap.size) _ #[] 25 (by simp)))
    have xo := xo_; clear xo_
    clear hw2
    have ro := OwnG.lit0 xo
    go_loopw [5, 16] (fun v i wr => ∃ (k : Nat) (A : Option Addr) (n c : Nat), k ≤ cn1 ∧ i = .int .i64 k ∧ v = .slice A n c ∧ Hid (OwnG wr (w.heap.size + 1 + 1) wr.heap.size (.slice A n c) (genLL (ohF cL1 gI0 gL1) k)) ∧ Hid (Box wr (w.heap.size) #[(.slice cA0 cn0 cc0), (.slice cA1 cn1 cc1)] 27) ∧ Hid (Box wr (w.heap.size + 1) #[.int .i64 gI0, (.slice gA1 gn1 gc1), (.slice gA2 gn2 gc2)] 33) ∧ Below w.heap.size w wr) (fun v i wr => cn1 - (intOf i).toNat)
    case atStart => exact ⟨0, _, _, _, by omega, rfl, rfl, OwnG.mono ro (by omega) (by first | omega | (simp [size_drew]; done) | (simp [size_drew]; omega)) (Nat.le_refl _), xc, xg, B2⟩
    case round =>
      obtain ⟨k, vA, vn, vc, hk, rfl, rfl, ro, xc, xg, B9⟩ := hrel
      obtain ⟨w9, hw9⟩ : ∃ x, x = wr := ⟨wr, rfl⟩
      subst hw9
      have ro := ro.out
      have xc := xc.out
      have zb_xc := xc.lt
      have xg := xg.out
      have zb_xg := xg.lt
      have hsn := Lib.hid (genLL_snoc (ohF cL1 gI0 gL1) k)
      have hgl := Lib.hid (genLL_len (ohF cL1 gI0 gL1) k)
      have z9 := B9.size
      have hro := ro.lo
      by_cases hlt : k < cn1
      · obtain ⟨m, hm, hmlt⟩ := circ_out HK.out (k := k) (by rw [cL1l.out]; exact hlt)
        have hm1 := Lib.hid hm
        have hmlt : m < cn0 := by rw [← cL0l.out]; exact hmlt
        obtain ⟨g, o, rfl, hg, hc⟩ := HO.out.block (by omega)
        have hco := hc k hlt
        clear hc
        rw [hm1.out] at hco
        clear hm
        have hmz : m < gn1 := by have := hzn.out; omega
        obtain ⟨g2, g2o, rfl, g2h, hc⟩ := HZ.out.block (by omega)
        have hcz := hc m (by omega)
        clear hc
        have hF := Lib.hid (show ohF cL1 gI0 gL1 k = [hashI (nth gL1 m) 999999, hashI (bits .xor .i64 (nth gL1 m) gI0) 999999] by rw [ohF, hm1.out]; rfl)
        have h1 : w9.cell? ⟨g, o + k, none⟩ = some (.int .i64 (m : Int)) := (cellB hg hco)
        have h1_l : g < w9.heap.size := by omega
        obtain ⟨cxc_0, cxc_1, fxc_0, fxc_1⟩ := xc.two
        have l_xc_0 : w.heap.size < w9.heap.size := by omega
        obtain ⟨cxg_0, cxg_1, cxg_2, fxg_0, fxg_1, fxg_2⟩ := xg.three
        have l_xg_0 : w.heap.size + 1 < w9.heap.size := by omega
        go_wp2_with fail
        clear cxc_0 cxc_1 fxc_0 fxc_1 l_xc_0 cxg_0 cxg_1 cxg_2 fxg_0 fxg_1 fxg_2 l_xg_0
        refine wp_region_held_drew (S := fun W => W.cell? ⟨w.heap.size + 1, 0, none⟩ = some (.int .i64 gI0) ∧ W.cell? ⟨w.heap.size + 1, 1, none⟩ = some (.slice (some ⟨g2, g2o, none⟩) gn1 gc1) ∧ W.cell? ⟨w.heap.size + 1, 2, none⟩ = some ((.slice gA2 gn2 gc2)) ∧ W.cell? ⟨g2, g2o + m, none⟩ = some (.int .i64 (nth gL1 m))) (by kernel_rfl) ⟨xg.drew.three.1, xg.drew.three.2.1, xg.drew.three.2.2.1, (cellB g2h hcz)⟩ (fun hS => ?_)
        (refine tk 0 hS ?_; (try simp only [Act.put, layA, layB, layC]))
        (refine tk 1 hS ?_; (try simp only [Act.put, layA, layB, layC]))
        (refine tk 2 hS ?_; (try simp only [Act.put, layA, layB, layC]))
        (refine tk 3 hS ?_; (try simp only [Act.put, layA, layB, layC]))
        (refine tk 4 hS ?_; (try simp only [Act.put, layA, layB, layC]))
        (refine tk 5 hS ?_; (try simp only [Act.put, layA, layB, layC]))
        (refine tk 7 hS ?_; (try simp only [Act.put, layA, layB, layC]))
        (refine tk 8 hS ?_; (try simp only [Act.put, layA, layB, layC]))
        (refine tk 9 hS ?_; (try simp only [Act.put, layA, layB, layC]))
        (refine tk 10 hS ?_; (try simp only [Act.put, layA, layB, layC]))
        (refine tk 11 hS ?_; (try simp only [Act.put, layA, layB, layC]))
        (refine tk 12 hS ?_; (try simp only [Act.put, layA, layB, layC]))
        (refine tk 13 hS ?_; (try simp only [Act.put, layA, layB, layC]))
        (refine tk 14 hS ?_; (try simp only [Act.put, layA, layB, layC]))
        refine on 6 ?_
        refine callH (by go_simp; (first | done | with_reducible rfl | exact ⟨rfl, rfl⟩)) ?_
        go_at_call 88
        refine (iHashLabel_any _ _ _).mono ?_
        rintro e w_ ⟨rfl, rfl⟩
        refine ⟨_, rfl, hS, fun hS => ?_⟩
        (try simp only [Act.put, layA, layB, layC])
        refine on 15 ?_
        refine callH (by go_simp; (first | done | with_reducible rfl | exact ⟨rfl, rfl⟩)) ?_
        go_at_call 88
        refine (iHashLabel_any _ _ _).mono ?_
        rintro e w_ ⟨rfl, rfl⟩
        refine ⟨_, rfl, hS, fun hS => ?_⟩
        (try simp only [Act.put, layA, layB, layC])
        refine on 16 ?_
        refine valueH (by go_simp; (first | done | with_reducible rfl | exact ⟨rfl, rfl⟩)) ?_ (fun hS_ => ?_)
        · exact ⟨(xg.alloc _).drew.three.1, (xg.alloc _).drew.three.2.1, (xg.alloc _).drew.three.2.2.1, (cellB g2h hcz)⟩
        clear hS
        have hS := hS_
        clear hS_
        (try simp only [Act.put, layA, layB, layC])
        refine on 17 ?_
        refine valueH (by go_simp; (first | done | with_reducible rfl | exact ⟨rfl, rfl⟩)) ?_ (fun hS_ => ?_)
        · exact ⟨((xg.alloc _).alloc _).drew.three.1, ((xg.alloc _).alloc _).drew.three.2.1, ((xg.alloc _).alloc _).drew.three.2.2.1, (cellB g2h hcz)⟩
        clear hS
        have hS := hS_
        clear hS_
        (try simp only [Act.put, layA, layB, layC])
        refine on 18 ?_
        refine appendH_GG (.tmp 20) (.tmp 37) rfl rfl (((ro.alloc _).alloc _).drew) rfl ((Box.new (g := w9.heap.size + 1) _ #[.slice (some ⟨w9.heap.size, 0, none⟩) 2 2] 25 (by simp)).drew) (ownLit2 (((Box.new (g := w9.heap.size) _ #[.int .i64 (hashI (nth gL1 m) 999999), .int .i64 (hashI (bits .xor .i64 (nth gL1 m) gI0) 999999)] 3 (by simp)).alloc _).drew)) (by omega) (by have := hgl.out; omega) ?_
        intro qA qn qc w10 ro_ c10
        have z10 := c10.size
        (try simp only [World.size_alloc, World.size_setCell, size_drew] at z10)
        have B10 : Below w.heap.size w w10 := Below.trans (b := _) (by repeat (with_reducible (first | assumption | exact Below.refl _ _ | refine Below.alloc ?_ (by first | omega | (simp; done) | (simp; omega)) _ | refine Below.setCell ?_ (by first | omega | (simp; done) | (simp; omega)) _ | refine Below.drew ?_ | refine below_drewN ?_ _))) (c10.below (by omega) (by first | omega | (simp [size_drew]; done) | (simp [size_drew]; omega)))
        clear ro; have ro := ro_; clear ro_
        have xc_ : Box w10 (w.heap.size) #[(.slice cA0 cn0 cc0), .slice (some ⟨g, o, none⟩) cn1 cc1] 27 := (((xc.alloc _).alloc _).drew).chg c10 (by omega)
        clear xc; have xc := xc_; clear xc_
        have xg_ : Box w10 (w.heap.size + 1) #[.int .i64 gI0, .slice (some ⟨g2, g2o, none⟩) gn1 gc1, (.slice gA2 gn2 gc2)] 33 := (((xg.alloc _).alloc _).drew).chg c10 (by omega)
        clear xg; have xg := xg_; clear xg_
        have xl_ : Box w10 (w9.heap.size) #[.int .i64 (hashI (nth gL1 m) 999999), .int .i64 (hashI (bits .xor .i64 (nth gL1 m) gI0) 999999)] 3 := (((Box.new (g := w9.heap.size) _ #[.int .i64 (hashI (nth gL1 m) 999999), .int .i64 (hashI (bits .xor .i64 (nth gL1 m) gI0) 999999)] 3 (by simp)).alloc _).drew).chg c10 (by omega)
        have xl := xl_; clear xl_
        have xr_ : Box w10 (w9.heap.size + 1) #[.slice (some ⟨w9.heap.size, 0, none⟩) 2 2] 25 := ((Box.new (g := w9.heap.size + 1) _ #[.slice (some ⟨w9.heap.size, 0, none⟩) 2 2] 25 (by simp)).drew).chg c10 (by omega)
        have xr := xr_; clear xr_
        clear xr xl
        refine ⟨⟨xg.three.1, xg.three.2.1, xg.three.2.2.1, (cellB g2h hcz)⟩, fun hS_ => ?_⟩
        clear hS; have hS := hS_; clear hS_
        (try simp only [Act.put, layA, layB, layC])
        (refine tk 19 hS ?_; (try simp only [Act.put, layA, layB, layC]))
        clear hS
        refine wpAnyH_done (by kernel_rfl) ?_ _
        rw [← hF.out] at ro
        go_wp2
        go_roundw
        case rel => exact ⟨k + 1, _, _, _, by omega, by go_num, rfl, by rw [hsn.out]; exact OwnG.mono ro (by omega) (by first | omega | (simp [size_drew]; done) | (simp [size_drew]; omega)) (Nat.le_refl _), xc, xg, B10⟩
        case measure => simp [intOf]; omega
      · have hkn : k = cn1 := by omega
        obtain ⟨cxc_0, cxc_1, fxc_0, fxc_1⟩ := xc.two
        have l_xc_0 : w.heap.size < w9.heap.size := by omega
        go_wp2
        refine bodyPost_ret (v := .slice vA vn vc) (by simp [results, go_sem, Try.results75]) rfl ⟨_, _, _, rfl, ?_, ?_⟩
        · rw [ohL_yes HO2.out, cL1l.out, ← hkn]; exact OwnG.mono ro (by omega) (by first | omega | (simp [size_drew]; done) | (simp [size_drew]; omega)) (Nat.le_refl _)
        · repeat (with_reducible (first | assumption | exact Below.refl _ _ | refine Below.alloc ?_ (by first | omega | (simp; done) | (simp; omega)) _ | refine Below.setCell ?_ (by first | omega | (simp; done) | (simp; omega)) _ | refine Below.drew ?_ | refine below_drewN ?_ _))
end Go.Proofs.Ytodnahpegecpiaa
namespace Go.Proofs.Ytodnahpegecpiaa
set_option linter.unusedSimpArgs false
set_option linter.unusedVariables false
open Go.RowKit
/-- One label of DecodeSafe: its hashes are two and it is a label; one of the hashes is its own. -/
def dsA (hh : List (List Int)) (ls : List Int) (k : Nat) : Bool := decide ((hh.getD k []).length = 2) && decide (0 ≤ hashI (nth ls k) 999999)
def dsM (hh : List (List Int)) (ls : List Int) (k : Nat) : Bool := (nth (hh.getD k []) 0 == hashI (nth ls k) 999999) || (nth (hh.getD k []) 1 == hashI (nth ls k) 999999)
def dsF (hh : List (List Int)) (ls : List Int) (k : Nat) : Int := if nth (hh.getD k []) 0 = hashI (nth ls k) 999999 then 0 else 1
def dsOk (hh : List (List Int)) (ls : List Int) : Bool := decide (hh.length = ls.length) && (List.range ls.length).all fun k => dsA hh ls k && dsM hh ls k
def dsO (hh : List (List Int)) (ls : List Int) : List Int := if dsOk hh ls then genL (dsF hh ls) ls.length else []
theorem dsO_yes {hh : List (List Int)} {ls : List Int} (h : dsOk hh ls = true) : dsO hh ls = genL (dsF hh ls) ls.length := by simp [dsO, h]
theorem dsO_no {hh : List (List Int)} {ls : List Int} (h : dsOk hh ls = false) : dsO hh ls = [] := by simp [dsO, h]
theorem dsO_len (hh : List (List Int)) (ls : List Int) : (dsO hh ls).length ≤ ls.length := by unfold dsO; split <;> simp [genL_len]
theorem dsOk_len {hh : List (List Int)} {ls : List Int} (h : hh.length ≠ ls.length) : dsOk hh ls = false := by simp [dsOk, h]
theorem dsOk_at {hh : List (List Int)} {ls : List Int} {k : Nat} (hk : k < ls.length) (h : (dsA hh ls k && dsM hh ls k) = false) : dsOk hh ls = false := by
  unfold dsOk
  rw [Bool.and_eq_false_iff]
  right
  rw [Bool.eq_false_iff]
  intro ha
  have := List.all_eq_true.1 ha k (List.mem_range.2 hk)
  rw [h] at this; cases this
theorem dsOk_all {hh : List (List Int)} {ls : List Int} (hl : hh.length = ls.length) (h : ∀ k, k < ls.length → dsA hh ls k = true ∧ dsM hh ls k = true) : dsOk hh ls = true := by
  unfold dsOk
  rw [Bool.and_eq_true]
  refine ⟨by simpa using hl, List.all_eq_true.2 fun k hk => ?_⟩
  obtain ⟨h1, h2⟩ := h k (List.mem_range.1 hk)
  rw [h1, h2]; rfl
theorem ds_lab (x : Int) : (0 ≤ hashI x 999999) ↔ lab x = true := by
  unfold hashI
  rw [show inB 999999 0 1000000 = true by rfl, Bool.and_true]
  cases lab x
  · simp
  · simp; have := keyedI_bd 77 999999 x; omega
set_option maxRecDepth 100000 in
set_option maxHeartbeats 1000000 in
theorem sDecodeSafe_L {hA0 : Option Addr} {hn0 hc0 : Nat} {hL0 : List (List Int)} {yA0 : Option Addr} {yn0 yc0 : Nat} {yL0 : List Int} {w : World} (hH : RdGr w (.slice hA0 hn0 hc0) hL0) (hL0n : BdLL hL0) (yH : RdL w [(.slice yA0 yn0 yc0, .ints yL0)]) (yL0n : yL0.length ≤ 1048576) :
    Calls Try.prog 40 #[.slice hA0 hn0 hc0, .slice yA0 yn0 yc0] w fun e w' => ∃ rA0 rn0 rc0, e = .returned (.tuple #[.slice rA0 rn0 rc0, .bool (dsOk hL0 yL0)]) ∧ OwnL w' w.heap.size w'.heap.size [(.slice rA0 rn0 rc0, .ints (dsO hL0 yL0))] ∧ Below w.heap.size w w' := by
  obtain ⟨_, _, _, e, HY⟩ := yH.ints
  cases e
  have HL := Lib.hid HY.len
  have HN := Lib.hid hH.len
  have hyn : yn0 ≤ 1048576 := by rw [← HL.out]; exact yL0n
  have HY := Lib.hid HY
  by_cases hnm : hn0 = yn0
  · subst hnm
    go_enter Try.func40, Try.ntmps40
    go_wp2_with fail
    generalize hw1 : World.alloc _ _ = w1
    have z1 : w.heap.size + 1 ≤ w1.heap.size := by rw [← hw1]; simp
    have B1 : Below w.heap.size w w1 := by rw [← hw1]; repeat (with_reducible (first | assumption | exact Below.refl _ _ | refine Below.alloc ?_ (by first | omega | (simp; done) | (simp; omega)) _ | refine Below.setCell ?_ (by first | omega | (simp; done) | (simp; omega)) _ | refine Below.drew ?_ | refine below_drewN ?_ _))
    have xo_ : Box w1 (w.heap.size) #[] 3 := (by rw [← hw1]; exact (Box.new (g := w.heap.size) _ #[] 3 (by simp)))
    have xo := xo_; clear xo_
    clear hw1
    have ro := OwnL.lit0 xo
    go_loopw [6, 7] (fun v i wr => ∃ (k : Nat) (A : Option Addr) (n c : Nat), k ≤ hn0 ∧ i = .int .i64 k ∧ v = .slice A n c ∧ Hid (OwnL wr w.heap.size wr.heap.size [(.slice A n c, .ints (genL (dsF hL0 yL0) k))]) ∧ Hid (∀ j, j < k → (dsA hL0 yL0 j && dsM hL0 yL0 j) = true) ∧ Below w.heap.size w wr) (fun v i wr => hn0 - (intOf i).toNat)
    case atStart => exact ⟨0, _, _, _, by omega, rfl, rfl, OwnL.widen ro (by omega), fun j hj => absurd hj (by omega), B1⟩
    case round =>
      clear ro
      obtain ⟨k, vA, vn, vc, hk, rfl, rfl, ro, HG, B9⟩ := hrel
      obtain ⟨w9, hw9⟩ : ∃ x, x = wr := ⟨wr, rfl⟩
      subst hw9
      have ro := ro.out
      have hsn := Lib.hid (genL_snoc (dsF hL0 yL0) k)
      have hgl := Lib.hid (genL_len (dsF hL0 yL0) k)
      have z9 := B9.size
      by_cases hlt : k < hn0
      · obtain ⟨g, og, u, rfl, hg, hcg, hr, _⟩ := hH.at hlt
        obtain ⟨gy, oy, rfl, hgy, hcy⟩ := HY.out.block (by omega)
        have hcyk := hcy k hlt
        clear hcy
        obtain ⟨uA, un, uc, rfl, hU⟩ := hr
        have hul := Lib.hid hU.len
        have hkl : Hid (k < yL0.length) := by show _ < _; rw [HL.out]; exact hlt
        have HX : Hid (∃ X, X = hashI (nth yL0 k) 999999) := ⟨_, rfl⟩
        obtain ⟨X, HX⟩ := HX.out
        replace HX := Lib.hid HX
        by_cases e2 : un = 2
        · subst e2
          by_cases hX : 0 ≤ X
          · have hXn : ¬ X < 0 := by omega
            obtain ⟨gu, ou, rfl, hgu, hcu⟩ := hU.block (by omega)
            have hu0 := hcu 0 (by omega)
            have hu1 := hcu 1 (by omega)
            clear hcu
            simp only [Nat.add_zero] at hu0
            obtain ⟨r0, hr0⟩ : ∃ r, r = nth (hL0.getD k []) 0 := ⟨_, rfl⟩
            obtain ⟨r1, hr1⟩ : ∃ r, r = nth (hL0.getD k []) 1 := ⟨_, rfl⟩
            rw [← hr0] at hu0
            rw [← hr1] at hu1
            replace hr0 := Lib.hid hr0
            replace hr1 := Lib.hid hr1
            have hcg9 := (Below.cell (w := w) (by repeat (with_reducible (first | assumption | exact Below.refl _ _ | refine Below.alloc ?_ (by first | omega | (simp; done) | (simp; omega)) _ | refine Below.setCell ?_ (by first | omega | (simp; done) | (simp; omega)) _ | refine Below.drew ?_ | refine below_drewN ?_ _))) hg).trans hcg
            have l9_hcg : g < w9.heap.size := by omega
            have hcyk9 := (Below.cell (w := w) (by repeat (with_reducible (first | assumption | exact Below.refl _ _ | refine Below.alloc ?_ (by first | omega | (simp; done) | (simp; omega)) _ | refine Below.setCell ?_ (by first | omega | (simp; done) | (simp; omega)) _ | refine Below.drew ?_ | refine below_drewN ?_ _))) hgy).trans hcyk
            have l9_hcyk : gy < w9.heap.size := by omega
            have hu09 := (Below.cell (w := w) (by repeat (with_reducible (first | assumption | exact Below.refl _ _ | refine Below.alloc ?_ (by first | omega | (simp; done) | (simp; omega)) _ | refine Below.setCell ?_ (by first | omega | (simp; done) | (simp; omega)) _ | refine Below.drew ?_ | refine below_drewN ?_ _))) hgu).trans hu0
            have l9_hu0 : gu < w9.heap.size := by omega
            have hu19 := (Below.cell (w := w) (by repeat (with_reducible (first | assumption | exact Below.refl _ _ | refine Below.alloc ?_ (by first | omega | (simp; done) | (simp; omega)) _ | refine Below.setCell ?_ (by first | omega | (simp; done) | (simp; omega)) _ | refine Below.drew ?_ | refine below_drewN ?_ _))) hgu).trans hu1
            have l9_hu1 : gu < w9.heap.size := by omega
            have hA : Hid (dsA hL0 yL0 k = true) := by show _ = _; have h0 := hX; have h1 := hul.out; rw [HX.out] at h0; simp [dsA, h0]; simpa using h1
            cases t0 : (r0 == X) with
            | true =>
              have hF : Hid (dsF hL0 yL0 k = 0) := by show _ = _; have e0 : r0 = X := (by simp at t0; omega); unfold dsF; rw [← hr0.out, ← HX.out]; exact if_pos e0
              have hM : Hid ((dsA hL0 yL0 k && dsM hL0 yL0 k) = true) := by show _ = _; have e0 : r0 = X := (by simp at t0; omega); rw [hA.out]; unfold dsM; rw [← hr0.out, ← HX.out, e0]; simp
              go_wp2_with fail
              refine (l20Hash_any _ _).mono ?_
              rintro e w_ ⟨rfl, rfl⟩
              rw [← HX.out]
              go_wp2_with (at_builtin; (refine append_N rfl _ _ rfl (0) _ rfl rfl ro (by first | rfl | simp) (by have := hgl.out; omega) ?_); intro qA qn qc w10 ro_ c10)
              have z10 := c10.size
              (try simp only [World.size_alloc, World.size_setCell, size_drew] at z10)
              have B10 : Below w.heap.size w w10 := Below.trans (b := _) (by repeat (with_reducible (first | assumption | exact Below.refl _ _ | refine Below.alloc ?_ (by first | omega | (simp; done) | (simp; omega)) _ | refine Below.setCell ?_ (by first | omega | (simp; done) | (simp; omega)) _ | refine Below.drew ?_ | refine below_drewN ?_ _))) (c10.below (by omega) (by first | omega | (simp [size_drew]; done) | (simp [size_drew]; omega)))
              clear ro; have ro := ro_; clear ro_
              rw [← hF.out] at ro
              go_wp2
              go_roundw
              case rel => exact ⟨k + 1, _, _, _, by omega, by go_num, rfl, by rw [hsn.out]; exact OwnL.widen ro (by omega), fun j hj => by
                  rcases Nat.lt_or_ge j k with h | h
                  · exact HG.out j h
                  · have : j = k := by omega
                    subst this; exact hM.out, B10⟩
              case measure => simp [intOf]; omega
            | false =>
              cases t1 : (r1 == X) with
              | true =>
                have hF : Hid (dsF hL0 yL0 k = 1) := by show _ = _; have e0 : r0 ≠ X := (by simp at t0; omega); unfold dsF; rw [← hr0.out, ← HX.out]; exact if_neg e0
                have hM : Hid ((dsA hL0 yL0 k && dsM hL0 yL0 k) = true) := by show _ = _; have e1 : r1 = X := (by simp at t1; omega); rw [hA.out]; unfold dsM; rw [← hr1.out, ← HX.out, e1]; simp
                go_wp2_with fail
                refine (l20Hash_any _ _).mono ?_
                rintro e w_ ⟨rfl, rfl⟩
                rw [← HX.out]
                go_wp2_with (at_builtin; (refine append_N rfl _ _ rfl (1) _ rfl rfl ro (by first | rfl | simp) (by have := hgl.out; omega) ?_); intro qA qn qc w10 ro_ c10)
                have z10 := c10.size
                (try simp only [World.size_alloc, World.size_setCell, size_drew] at z10)
                have B10 : Below w.heap.size w w10 := Below.trans (b := _) (by repeat (with_reducible (first | assumption | exact Below.refl _ _ | refine Below.alloc ?_ (by first | omega | (simp; done) | (simp; omega)) _ | refine Below.setCell ?_ (by first | omega | (simp; done) | (simp; omega)) _ | refine Below.drew ?_ | refine below_drewN ?_ _))) (c10.below (by omega) (by first | omega | (simp [size_drew]; done) | (simp [size_drew]; omega)))
                clear ro; have ro := ro_; clear ro_
                rw [← hF.out] at ro
                go_wp2
                go_roundw
                case rel => exact ⟨k + 1, _, _, _, by omega, by go_num, rfl, by rw [hsn.out]; exact OwnL.widen ro (by omega), fun j hj => by
                    rcases Nat.lt_or_ge j k with h | h
                    · exact HG.out j h
                    · have : j = k := by omega
                      subst this; exact hM.out, B10⟩
                case measure => simp [intOf]; omega
              | false =>
                have HO2 : Hid (dsOk hL0 yL0 = false) := dsOk_at hkl.out (by have e0 : r0 ≠ X := (by simp at t0; omega); have e1 : r1 ≠ X := (by simp at t1; omega); have : dsM hL0 yL0 k = false := (by unfold dsM; rw [← hr0.out, ← hr1.out, ← HX.out]; simp [e0, e1]); rw [this, Bool.and_false])
                go_wp2_with fail
                refine (l20Hash_any _ _).mono ?_
                rintro e w_ ⟨rfl, rfl⟩
                rw [← HX.out]
                go_wp2
                refine bodyPost_ret (v := .tuple #[.slice (some ⟨w9.heap.size, 0, none⟩) 0 0, .bool false]) (by simp [results, go_sem, Try.results40]) rfl ⟨_, _, _, by rw [HO2.out], ?_, ?_⟩
                · rw [dsO_no HO2.out]; exact OwnL.mono (OwnL.lit0 (Box.new (g := w9.heap.size) _ #[] 3 (by simp))) (by omega) (by first | omega | (simp [size_drew]; done) | (simp [size_drew]; omega)) (Nat.le_refl _)
                · repeat (with_reducible (first | assumption | exact Below.refl _ _ | refine Below.alloc ?_ (by first | omega | (simp; done) | (simp; omega)) _ | refine Below.setCell ?_ (by first | omega | (simp; done) | (simp; omega)) _ | refine Below.drew ?_ | refine below_drewN ?_ _))
          · have hXn : X < 0 := by omega
            have hcg9 := (Below.cell (w := w) (by repeat (with_reducible (first | assumption | exact Below.refl _ _ | refine Below.alloc ?_ (by first | omega | (simp; done) | (simp; omega)) _ | refine Below.setCell ?_ (by first | omega | (simp; done) | (simp; omega)) _ | refine Below.drew ?_ | refine below_drewN ?_ _))) hg).trans hcg
            have l9_hcg : g < w9.heap.size := by omega
            have hcyk9 := (Below.cell (w := w) (by repeat (with_reducible (first | assumption | exact Below.refl _ _ | refine Below.alloc ?_ (by first | omega | (simp; done) | (simp; omega)) _ | refine Below.setCell ?_ (by first | omega | (simp; done) | (simp; omega)) _ | refine Below.drew ?_ | refine below_drewN ?_ _))) hgy).trans hcyk
            have l9_hcyk : gy < w9.heap.size := by omega
            have HO2 : Hid (dsOk hL0 yL0 = false) := dsOk_at hkl.out (by have h0 := hX; rw [HX.out] at h0; simp [dsA, h0])
            go_wp2_with fail
            refine (l20Hash_any _ _).mono ?_
            rintro e w_ ⟨rfl, rfl⟩
            rw [← HX.out]
            go_wp2
            refine bodyPost_ret (v := .tuple #[.slice (some ⟨w9.heap.size, 0, none⟩) 0 0, .bool false]) (by simp [results, go_sem, Try.results40]) rfl ⟨_, _, _, by rw [HO2.out], ?_, ?_⟩
            · rw [dsO_no HO2.out]; exact OwnL.mono (OwnL.lit0 (Box.new (g := w9.heap.size) _ #[] 3 (by simp))) (by omega) (by first | omega | (simp [size_drew]; done) | (simp [size_drew]; omega)) (Nat.le_refl _)
            · repeat (with_reducible (first | assumption | exact Below.refl _ _ | refine Below.alloc ?_ (by first | omega | (simp; done) | (simp; omega)) _ | refine Below.setCell ?_ (by first | omega | (simp; done) | (simp; omega)) _ | refine Below.drew ?_ | refine below_drewN ?_ _))
        · have e2i : ¬ (un : Int) = 2 := by omega
          have hcg9 := (Below.cell (w := w) (by repeat (with_reducible (first | assumption | exact Below.refl _ _ | refine Below.alloc ?_ (by first | omega | (simp; done) | (simp; omega)) _ | refine Below.setCell ?_ (by first | omega | (simp; done) | (simp; omega)) _ | refine Below.drew ?_ | refine below_drewN ?_ _))) hg).trans hcg
          have l9_hcg : g < w9.heap.size := by omega
          have hcyk9 := (Below.cell (w := w) (by repeat (with_reducible (first | assumption | exact Below.refl _ _ | refine Below.alloc ?_ (by first | omega | (simp; done) | (simp; omega)) _ | refine Below.setCell ?_ (by first | omega | (simp; done) | (simp; omega)) _ | refine Below.drew ?_ | refine below_drewN ?_ _))) hgy).trans hcyk
          have l9_hcyk : gy < w9.heap.size := by omega
          have HO2 : Hid (dsOk hL0 yL0 = false) := dsOk_at hkl.out (by have h1 := hul.out; have : ¬ (hL0.getD k []).length = 2 := (by omega); simp [dsA, -List.getD_eq_getElem?_getD, this])
          go_wp2_with fail
          refine (l20Hash_any _ _).mono ?_
          rintro e w_ ⟨rfl, rfl⟩
          rw [← HX.out]
          go_wp2
          refine bodyPost_ret (v := .tuple #[.slice (some ⟨w9.heap.size, 0, none⟩) 0 0, .bool false]) (by simp [results, go_sem, Try.results40]) rfl ⟨_, _, _, by rw [HO2.out], ?_, ?_⟩
          · rw [dsO_no HO2.out]; exact OwnL.mono (OwnL.lit0 (Box.new (g := w9.heap.size) _ #[] 3 (by simp))) (by omega) (by first | omega | (simp [size_drew]; done) | (simp [size_drew]; omega)) (Nat.le_refl _)
          · repeat (with_reducible (first | assumption | exact Below.refl _ _ | refine Below.alloc ?_ (by first | omega | (simp; done) | (simp; omega)) _ | refine Below.setCell ?_ (by first | omega | (simp; done) | (simp; omega)) _ | refine Below.drew ?_ | refine below_drewN ?_ _))
      · have hkn : k = yL0.length := by have := HL.out; omega
        have HO2 : Hid (dsOk hL0 yL0 = true) := dsOk_all (by rw [HL.out]; exact HN.out) (fun j hj => and_true_of (HG.out j (by omega)))
        have HK := Lib.hid hkn
        clear hkn
        go_wp2
        refine bodyPost_ret (v := .tuple #[.slice vA vn vc, .bool true]) (by simp [results, go_sem, Try.results40]) rfl ⟨_, _, _, by rw [HO2.out], ?_, ?_⟩
        · rw [dsO_yes HO2.out, ← HK.out]; exact OwnL.widen ro (by omega)
        · repeat (with_reducible (first | assumption | exact Below.refl _ _ | refine Below.alloc ?_ (by first | omega | (simp; done) | (simp; omega)) _ | refine Below.setCell ?_ (by first | omega | (simp; done) | (simp; omega)) _ | refine Below.drew ?_ | refine below_drewN ?_ _))
  · have hnmi : ¬ (hn0 : Int) = (yn0 : Int) := by omega
    have HO2 : Hid (dsOk hL0 yL0 = false) := dsOk_len (by have := HL.out; have := HN.out; omega)
    go_enter Try.func40, Try.ntmps40
    go_wp2
    refine bodyPost_ret (v := .tuple #[.slice (some ⟨w.heap.size, 0, none⟩) 0 0, .bool false]) (by simp [results, go_sem, Try.results40]) rfl ⟨_, _, _, by rw [HO2.out], ?_, ?_⟩
    · rw [dsO_no HO2.out]; exact OwnL.mono (OwnL.lit0 (Box.new (g := w.heap.size) _ #[] 3 (by simp))) (by omega) (by first | omega | (simp [size_drew]; done) | (simp [size_drew]; omega)) (Nat.le_refl _)
    · repeat (with_reducible (first | assumption | exact Below.refl _ _ | refine Below.alloc ?_ (by first | omega | (simp; done) | (simp; omega)) _ | refine Below.setCell ?_ (by first | omega | (simp; done) | (simp; omega)) _ | refine Below.drew ?_ | refine below_drewN ?_ _))
set_option maxRecDepth 100000 in
set_option maxHeartbeats 1000000 in
theorem iDecodeSafe_L {hA0 : Option Addr} {hn0 hc0 : Nat} {hL0 : List (List Int)} {yA0 : Option Addr} {yn0 yc0 : Nat} {yL0 : List Int} {w : World} (hH : RdGr w (.slice hA0 hn0 hc0) hL0) (hL0n : BdLL hL0) (yH : RdL w [(.slice yA0 yn0 yc0, .ints yL0)]) (yL0n : yL0.length ≤ 1048576) :
    Calls Try.prog 42 #[.slice hA0 hn0 hc0, .slice yA0 yn0 yc0] w fun e w' => ∃ rA0 rn0 rc0, e = .returned (.tuple #[.slice rA0 rn0 rc0, .bool (dsOk hL0 yL0)]) ∧ OwnL w' w.heap.size w'.heap.size [(.slice rA0 rn0 rc0, .ints (dsO hL0 yL0))] ∧ Below w.heap.size w w' := by
  obtain ⟨_, _, _, e, HY⟩ := yH.ints
  cases e
  have HL := Lib.hid HY.len
  have HN := Lib.hid hH.len
  have hyn : yn0 ≤ 1048576 := by rw [← HL.out]; exact yL0n
  have HY := Lib.hid HY
  by_cases hnm : hn0 = yn0
  · subst hnm
    go_enter Try.func42, Try.ntmps42
    go_wp2_with fail
    go_loop [18] (fun i => ∃ k : Nat, k ≤ hn0 ∧ i = .int .i64 k ∧ Hid (∀ j, j < k → dsA hL0 yL0 j = true)) (fun i => hn0 - (intOf i).toNat)
    case atStart => exact ⟨0, by omega, rfl, fun j hj => absurd hj (by omega)⟩
    case round =>
      obtain ⟨k, hk, rfl, HG⟩ := hrel
      by_cases hlt : k < hn0
      · obtain ⟨g, og, u, rfl, hg, hcg, hr, _⟩ := hH.at hlt
        obtain ⟨gy, oy, rfl, hgy, hcy⟩ := HY.out.block (by omega)
        have hcyk := hcy k hlt
        clear hcy
        obtain ⟨uA, un, uc, rfl, hU⟩ := hr
        have hul := Lib.hid hU.len
        have hkl : Hid (k < yL0.length) := by show _ < _; rw [HL.out]; exact hlt
        have HX : Hid (∃ X, X = hashI (nth yL0 k) 999999) := ⟨_, rfl⟩
        obtain ⟨X, HX⟩ := HX.out
        replace HX := Lib.hid HX
        by_cases e2 : un = 2
        · subst e2
          cases t0 : lab (nth yL0 k) with
          | false =>
            have HO2 : Hid (dsOk hL0 yL0 = false) := dsOk_at hkl.out (by have := (not_congr (ds_lab (nth yL0 k))).2 (by rw [t0]; simp); simp [dsA, this])
            go_wp2_with fail
            refine (iIsLabel_any _ _).mono ?_
            rintro e w_ ⟨rfl, rfl⟩
            rw [t0]
            go_wp2
            refine bodyPost_ret (v := .tuple #[.slice none 0 0, .bool false]) (by simp [results, go_sem, Try.results42]) rfl ⟨none, 0, 0, by rw [HO2.out], ?_, ?_⟩
            · rw [dsO_no HO2.out]; exact OwnL.nones _ (by simp) (by first | omega | (simp [size_drew]; done) | (simp [size_drew]; omega))
            · repeat (with_reducible (first | assumption | exact Below.refl _ _ | refine Below.alloc ?_ (by first | omega | (simp; done) | (simp; omega)) _ | refine Below.setCell ?_ (by first | omega | (simp; done) | (simp; omega)) _ | refine Below.drew ?_ | refine below_drewN ?_ _))
          | true =>
            have hA : Hid (dsA hL0 yL0 k = true) := by show _ = _; have h0 := (ds_lab (nth yL0 k)).2 t0; have h1 := hul.out; simp [dsA, h0]; simpa using h1
            go_wp2_with fail
            refine (iIsLabel_any _ _).mono ?_
            rintro e w_ ⟨rfl, rfl⟩
            rw [t0]
            go_wp2
            go_round
            case rel => exact ⟨k + 1, by omega, by go_num, fun j hj => by
                rcases Nat.lt_or_ge j k with h | h
                · exact HG.out j h
                · have : j = k := by omega
                  subst this; exact hA.out⟩
            case measure => simp [intOf]; omega
        · have e2i : ¬ (un : Int) = 2 := by omega
          have HO2 : Hid (dsOk hL0 yL0 = false) := dsOk_at hkl.out (by have h1 := hul.out; have : ¬ (hL0.getD k []).length = 2 := (by omega); simp [dsA, -List.getD_eq_getElem?_getD, this])
          go_wp2
          refine bodyPost_ret (v := .tuple #[.slice none 0 0, .bool false]) (by simp [results, go_sem, Try.results42]) rfl ⟨none, 0, 0, by rw [HO2.out], ?_, ?_⟩
          · rw [dsO_no HO2.out]; exact OwnL.nones _ (by simp) (by first | omega | (simp [size_drew]; done) | (simp [size_drew]; omega))
          · repeat (with_reducible (first | assumption | exact Below.refl _ _ | refine Below.alloc ?_ (by first | omega | (simp; done) | (simp; omega)) _ | refine Below.setCell ?_ (by first | omega | (simp; done) | (simp; omega)) _ | refine Below.drew ?_ | refine below_drewN ?_ _))
      have hkn : k = hn0 := by omega
      subst hkn
      clear hlt hk
      have HA := HG; clear HG
      go_wp2_with fail
      generalize hw1 : World.alloc _ _ = w1
      have z1 : w.heap.size + 1 ≤ w1.heap.size := by rw [← hw1]; simp
      have B1 : Below w.heap.size w w1 := by rw [← hw1]; repeat (with_reducible (first | assumption | exact Below.refl _ _ | refine Below.alloc ?_ (by first | omega | (simp; done) | (simp; omega)) _ | refine Below.setCell ?_ (by first | omega | (simp; done) | (simp; omega)) _ | refine Below.drew ?_ | refine below_drewN ?_ _))
      have xo_ : Box w1 (w.heap.size) #[] 3 := (by rw [← hw1]; exact (Box.new (g := w.heap.size) _ #[] 3 (by simp)))
      have xo := xo_; clear xo_
      clear hw1
      have ro := OwnL.lit0 xo
      obtain ⟨n0, hn0⟩ : ∃ n0, n0 = k := ⟨_, rfl⟩
      subst hn0
      go_loopw [8, 38] (fun v i wr => ∃ (k : Nat) (A : Option Addr) (n c : Nat), k ≤ n0 ∧ i = .int .i64 k ∧ v = .slice A n c ∧ Hid (OwnL wr w.heap.size wr.heap.size [(.slice A n c, .ints (genL (dsF hL0 yL0) k))]) ∧ Hid (∀ j, j < k → dsM hL0 yL0 j = true) ∧ Below w.heap.size w wr) (fun v i wr => n0 - (intOf i).toNat)
      case atStart => exact ⟨0, _, _, _, by omega, rfl, rfl, OwnL.widen ro (by omega), fun j hj => absurd hj (by omega), B1⟩
      case round =>
        clear ro
        obtain ⟨k, vA, vn, vc, hk, rfl, rfl, ro, HG, B9⟩ := hrel
        obtain ⟨w9, hw9⟩ : ∃ x, x = wr := ⟨wr, rfl⟩
        subst hw9
        have ro := ro.out
        have hsn := Lib.hid (genL_snoc (dsF hL0 yL0) k)
        have hgl := Lib.hid (genL_len (dsF hL0 yL0) k)
        have z9 := B9.size
        by_cases hlt : k < n0
        · obtain ⟨g, og, u, rfl, hg, hcg, hr, _⟩ := hH.at hlt
          obtain ⟨gy, oy, rfl, hgy, hcy⟩ := HY.out.block (by omega)
          have hcyk := hcy k hlt
          clear hcy
          obtain ⟨uA, un, uc, rfl, hU⟩ := hr
          have hul := Lib.hid hU.len
          have hkl : Hid (k < yL0.length) := by show _ < _; rw [HL.out]; exact hlt
          have HX : Hid (∃ X, X = hashI (nth yL0 k) 999999) := ⟨_, rfl⟩
          obtain ⟨X, HX⟩ := HX.out
          replace HX := Lib.hid HX
          have e2 : un = 2 := by
            have h1 := HA.out k hlt; have h2 := hul.out
            unfold dsA at h1
            have h3 := (and_true_of h1).1
            have h3 := of_decide_eq_true h3
            omega
          subst e2
          obtain ⟨gu, ou, rfl, hgu, hcu⟩ := hU.block (by omega)
          have hu0 := hcu 0 (by omega)
          have hu1 := hcu 1 (by omega)
          clear hcu
          simp only [Nat.add_zero] at hu0
          obtain ⟨r0, hr0⟩ : ∃ r, r = nth (hL0.getD k []) 0 := ⟨_, rfl⟩
          obtain ⟨r1, hr1⟩ : ∃ r, r = nth (hL0.getD k []) 1 := ⟨_, rfl⟩
          rw [← hr0] at hu0
          rw [← hr1] at hu1
          replace hr0 := Lib.hid hr0
          replace hr1 := Lib.hid hr1
          have hcg9 := (Below.cell (w := w) (by repeat (with_reducible (first | assumption | exact Below.refl _ _ | refine Below.alloc ?_ (by first | omega | (simp; done) | (simp; omega)) _ | refine Below.setCell ?_ (by first | omega | (simp; done) | (simp; omega)) _ | refine Below.drew ?_ | refine below_drewN ?_ _))) hg).trans hcg
          have l9_hcg : g < w9.heap.size := by omega
          have hcyk9 := (Below.cell (w := w) (by repeat (with_reducible (first | assumption | exact Below.refl _ _ | refine Below.alloc ?_ (by first | omega | (simp; done) | (simp; omega)) _ | refine Below.setCell ?_ (by first | omega | (simp; done) | (simp; omega)) _ | refine Below.drew ?_ | refine below_drewN ?_ _))) hgy).trans hcyk
          have l9_hcyk : gy < w9.heap.size := by omega
          have hu09 := (Below.cell (w := w) (by repeat (with_reducible (first | assumption | exact Below.refl _ _ | refine Below.alloc ?_ (by first | omega | (simp; done) | (simp; omega)) _ | refine Below.setCell ?_ (by first | omega | (simp; done) | (simp; omega)) _ | refine Below.drew ?_ | refine below_drewN ?_ _))) hgu).trans hu0
          have l9_hu0 : gu < w9.heap.size := by omega
          have hu19 := (Below.cell (w := w) (by repeat (with_reducible (first | assumption | exact Below.refl _ _ | refine Below.alloc ?_ (by first | omega | (simp; done) | (simp; omega)) _ | refine Below.setCell ?_ (by first | omega | (simp; done) | (simp; omega)) _ | refine Below.drew ?_ | refine below_drewN ?_ _))) hgu).trans hu1
          have l9_hu1 : gu < w9.heap.size := by omega
          cases t0 : (X == r0) with
          | true =>
            have hF : Hid (dsF hL0 yL0 k = 0) := by show _ = _; have e0 : r0 = X := (by simp at t0; omega); unfold dsF; rw [← hr0.out, ← HX.out]; exact if_pos e0
            have hM : Hid (dsM hL0 yL0 k = true) := by show _ = _; have e0 : r0 = X := (by simp at t0; omega); unfold dsM; rw [← hr0.out, ← HX.out, e0]; simp
            go_wp2_with fail
            refine (iHashLabel_any _ _ _).mono ?_
            rintro e w_ ⟨rfl, rfl⟩
            rw [← HX.out]
            go_wp2_with (at_builtin; (refine append_N rfl _ _ rfl (0) _ rfl rfl ro (by first | rfl | simp) (by have := hgl.out; omega) ?_); intro qA qn qc w10 ro_ c10)
            have z10 := c10.size
            (try simp only [World.size_alloc, World.size_setCell, size_drew] at z10)
            have B10 : Below w.heap.size w w10 := Below.trans (b := _) (by repeat (with_reducible (first | assumption | exact Below.refl _ _ | refine Below.alloc ?_ (by first | omega | (simp; done) | (simp; omega)) _ | refine Below.setCell ?_ (by first | omega | (simp; done) | (simp; omega)) _ | refine Below.drew ?_ | refine below_drewN ?_ _))) (c10.below (by omega) (by first | omega | (simp [size_drew]; done) | (simp [size_drew]; omega)))
            clear ro; have ro := ro_; clear ro_
            rw [← hF.out] at ro
            go_wp2
            go_roundw
            case rel => exact ⟨k + 1, _, _, _, by omega, by go_num, rfl, by rw [hsn.out]; exact OwnL.widen ro (by omega), fun j hj => by
                rcases Nat.lt_or_ge j k with h | h
                · exact HG.out j h
                · have : j = k := by omega
                  subst this; exact hM.out, B10⟩
            case measure => simp [intOf]; omega
          | false =>
            cases t1 : (X == r1) with
            | true =>
              have hF : Hid (dsF hL0 yL0 k = 1) := by show _ = _; have e0 : r0 ≠ X := (by simp at t0; omega); unfold dsF; rw [← hr0.out, ← HX.out]; exact if_neg e0
              have hM : Hid (dsM hL0 yL0 k = true) := by show _ = _; have e1 : r1 = X := (by simp at t1; omega); unfold dsM; rw [← hr1.out, ← HX.out, e1]; simp
              go_wp2_with fail
              refine (iHashLabel_any _ _ _).mono ?_
              rintro e w_ ⟨rfl, rfl⟩
              rw [← HX.out]
              go_wp2_with (at_builtin; (refine append_N rfl _ _ rfl (1) _ rfl rfl ro (by first | rfl | simp) (by have := hgl.out; omega) ?_); intro qA qn qc w10 ro_ c10)
              have z10 := c10.size
              (try simp only [World.size_alloc, World.size_setCell, size_drew] at z10)
              have B10 : Below w.heap.size w w10 := Below.trans (b := _) (by repeat (with_reducible (first | assumption | exact Below.refl _ _ | refine Below.alloc ?_ (by first | omega | (simp; done) | (simp; omega)) _ | refine Below.setCell ?_ (by first | omega | (simp; done) | (simp; omega)) _ | refine Below.drew ?_ | refine below_drewN ?_ _))) (c10.below (by omega) (by first | omega | (simp [size_drew]; done) | (simp [size_drew]; omega)))
              clear ro; have ro := ro_; clear ro_
              rw [← hF.out] at ro
              go_wp2
              go_roundw
              case rel => exact ⟨k + 1, _, _, _, by omega, by go_num, rfl, by rw [hsn.out]; exact OwnL.widen ro (by omega), fun j hj => by
                  rcases Nat.lt_or_ge j k with h | h
                  · exact HG.out j h
                  · have : j = k := by omega
                    subst this; exact hM.out, B10⟩
              case measure => simp [intOf]; omega
            | false =>
              have HO2 : Hid (dsOk hL0 yL0 = false) := dsOk_at hkl.out (by have e0 : r0 ≠ X := (by simp at t0; omega); have e1 : r1 ≠ X := (by simp at t1; omega); have : dsM hL0 yL0 k = false := (by unfold dsM; rw [← hr0.out, ← hr1.out, ← HX.out]; simp [e0, e1]); rw [this, Bool.and_false])
              go_wp2_with fail
              refine (iHashLabel_any _ _ _).mono ?_
              rintro e w_ ⟨rfl, rfl⟩
              rw [← HX.out]
              go_wp2
              refine bodyPost_ret (v := .tuple #[.slice none 0 0, .bool false]) (by simp [results, go_sem, Try.results42]) rfl ⟨none, 0, 0, by rw [HO2.out], ?_, ?_⟩
              · rw [dsO_no HO2.out]; exact OwnL.nones _ (by simp) (by first | omega | (simp [size_drew]; done) | (simp [size_drew]; omega))
              · repeat (with_reducible (first | assumption | exact Below.refl _ _ | refine Below.alloc ?_ (by first | omega | (simp; done) | (simp; omega)) _ | refine Below.setCell ?_ (by first | omega | (simp; done) | (simp; omega)) _ | refine Below.drew ?_ | refine below_drewN ?_ _))
        · have hkn : k = yL0.length := by have := HL.out; omega
          have HO2 : Hid (dsOk hL0 yL0 = true) := dsOk_all (by rw [HL.out]; exact HN.out) (fun j hj => ⟨HA.out j (by omega), HG.out j (by omega)⟩)
          have HK := Lib.hid hkn
          clear hkn
          go_wp2
          refine bodyPost_ret (v := .tuple #[.slice vA vn vc, .bool true]) (by simp [results, go_sem, Try.results42]) rfl ⟨_, _, _, by rw [HO2.out], ?_, ?_⟩
          · rw [dsO_yes HO2.out, ← HK.out]; exact OwnL.widen ro (by omega)
          · repeat (with_reducible (first | assumption | exact Below.refl _ _ | refine Below.alloc ?_ (by first | omega | (simp; done) | (simp; omega)) _ | refine Below.setCell ?_ (by first | omega | (simp; done) | (simp; omega)) _ | refine Below.drew ?_ | refine below_drewN ?_ _))
  · have hnmi : ¬ (hn0 : Int) = (yn0 : Int) := by omega
    have HO2 : Hid (dsOk hL0 yL0 = false) := dsOk_len (by have := HL.out; have := HN.out; omega)
    go_enter Try.func42, Try.ntmps42
    go_wp2
    refine bodyPost_ret (v := .tuple #[.slice none 0 0, .bool false]) (by simp [results, go_sem, Try.results42]) rfl ⟨none, 0, 0, by rw [HO2.out], ?_, ?_⟩
    · rw [dsO_no HO2.out]; exact OwnL.nones _ (by simp) (by first | omega | (simp [size_drew]; done) | (simp [size_drew]; omega))
    · repeat (with_reducible (first | assumption | exact Below.refl _ _ | refine Below.alloc ?_ (by first | omega | (simp; done) | (simp; omega)) _ | refine Below.setCell ?_ (by first | omega | (simp; done) | (simp; omega)) _ | refine Below.drew ?_ | refine below_drewN ?_ _))
end Go.Proofs.Ytodnahpegecpiaa
namespace Go.Proofs.Ytodnahpegecpiaa
set_option linter.unusedSimpArgs false
set_option linter.unusedVariables false
/-- The sum of the first f digits, to the base of 16. -/
def ds : Nat → Nat → Nat
  | 0, _ => 0
  | f + 1, n => n % 16 + ds f (n / 16)
theorem ds_le : ∀ f n, ds f n ≤ n
  | 0, _ => Nat.zero_le _
  | f + 1, n => by have := ds_le f (n / 16); unfold ds; omega
theorem ds_lt : ∀ f {n}, 16 ≤ n → ds f n < n
  | 0, n, h => by unfold ds; omega
  | f + 1, n, h => by have := ds_le f (n / 16); unfold ds; omega
theorem ds_add : ∀ f a b, ds f (a + b) ≤ ds f a + ds f b
  | 0, _, _ => by simp [ds]
  | f + 1, a, b => by
    unfold ds
    by_cases h : a % 16 + b % 16 < 16
    · have e1 : (a + b) % 16 = a % 16 + b % 16 := by omega
      have e2 : (a + b) / 16 = a / 16 + b / 16 := by omega
      have := ds_add f (a / 16) (b / 16)
      rw [e1, e2]; omega
    · have e1 : (a + b) % 16 + 16 = a % 16 + b % 16 := by omega
      have e2 : (a + b) / 16 = a / 16 + b / 16 + 1 := by omega
      have h1 := ds_add f (a / 16) (b / 16)
      have h2 := ds_add f (a / 16 + b / 16) 1
      have h3 := ds_le f 1
      rw [e2]; omega
theorem ds_fuel : ∀ f n, ds f n ≤ ds (f + 1) n
  | 0, n => by simp [ds]
  | f + 1, n => by have := ds_fuel f (n / 16); unfold ds; omega
theorem ds_shift (f n : Nat) : ds f (n * 16) ≤ ds f n := by
  cases f with
  | zero => simp [ds]
  | succ f =>
    have h1 : ds (f + 1) (n * 16) = ds f n := by
      show n * 16 % 16 + ds f (n * 16 / 16) = _
      rw [Nat.mul_mod_left, Nat.mul_div_cancel _ (by omega)]; omega
    rw [h1]; exact ds_fuel f n
theorem ds_pow (f n : Nat) : ∀ h, ds f (n * 16 ^ h) ≤ ds f n
  | 0 => by simp
  | h + 1 => by
    rw [Nat.pow_succ, ← Nat.mul_assoc]
    exact Nat.le_trans (ds_shift f _) (ds_pow f n h)
theorem ds_split : ∀ i j n, ds (i + j) n = ds i n + ds j (n / 16 ^ i)
  | 0, j, n => by simp [ds]
  | i + 1, j, n => by
    rw [show i + 1 + j = (i + j) + 1 by omega]
    show n % 16 + ds (i + j) (n / 16) = (n % 16 + ds i (n / 16)) + ds j (n / 16 ^ (i + 1))
    rw [ds_split i j (n / 16), Nat.div_div_eq_div_mul, show 16 * 16 ^ i = 16 ^ (i + 1) by rw [Nat.pow_succ, Nat.mul_comm]]
    omega
/-- The same in halves. -/
def dgF (k : Nat) : Nat → Nat := Nat.rec (fun n => Nat.mod n 16) (fun k ih n => Nat.add (ih n) (ih (Nat.div n (Nat.pow 16 (Nat.pow 2 k))))) k
theorem dgF_eq : ∀ k n, dgF k n = ds (2 ^ k) n
  | 0, n => by show n % 16 = n % 16 + 0; rfl
  | k + 1, n => by
    show dgF k n + dgF k (n / 16 ^ 2 ^ k) = _
    rw [dgF_eq k, dgF_eq k, Nat.pow_succ, Nat.mul_two, ds_split]
/-- A sum over the 2^k numbers from a on, in halves. -/
def sumR (f : Nat → Nat) (k : Nat) : Nat → Nat := Nat.rec f (fun k ih a => Nat.add (ih a) (ih (Nat.add a (Nat.pow 2 k)))) k
theorem sumR_succ (f : Nat → Nat) (k a : Nat) : sumR f (k + 1) a = sumR f k a + sumR f k (a + 2 ^ k) := rfl
def one (p : Nat → Bool) (x : Nat) : Nat := cond (p x) 1 0
def pw (p : Nat → Bool) (g : Nat → Nat) (x : Nat) : Nat := cond (p x) (Nat.pow 16 (g x)) 0
theorem pw_others (f : Nat) (p : Nat → Bool) (g : Nat → Nat) : ∀ k a, ds f (sumR (pw p g) k a) ≤ sumR (one p) k a
  | 0, a => by
    show ds f (cond (p a) (16 ^ g a) 0) ≤ cond (p a) 1 0
    cases p a
    · exact ds_le _ _
    · have h1 := ds_pow f 1 (g a); have h2 := ds_le f 1
      rw [Nat.one_mul] at h1
      show ds f (16 ^ g a) ≤ 1
      omega
  | k + 1, a => by
    rw [sumR_succ, sumR_succ]
    have h1 := ds_add f (sumR (pw p g) k a) (sumR (pw p g) k (a + 2 ^ k))
    have h2 := pw_others f p g k a
    have h3 := pw_others f p g k (a + 2 ^ k)
    omega
theorem pw_part (p : Nat → Bool) (g : Nat → Nat) (v : Nat) : ∀ k a,
    sumR (pw p g) k a = sumR (one fun x => p x && (g x == v)) k a * 16 ^ v + sumR (pw (fun x => p x && !(g x == v)) g) k a ∧
    sumR (one p) k a = sumR (one fun x => p x && (g x == v)) k a + sumR (one fun x => p x && !(g x == v)) k a
  | 0, a => by
    show cond (p a) (16 ^ g a) 0 = cond (p a && (g a == v)) 1 0 * 16 ^ v + cond (p a && !(g a == v)) (16 ^ g a) 0 ∧ cond (p a) 1 0 = cond (p a && (g a == v)) 1 0 + cond (p a && !(g a == v)) 1 0
    cases p a
    · simp
    · by_cases h : g a = v
      · subst h; simp
      · have h' : (g a == v) = false := by simpa using h
        rw [h']; simp
  | k + 1, a => by
    obtain ⟨h1, h2⟩ := pw_part p g v k a
    obtain ⟨h3, h4⟩ := pw_part p g v k (a + 2 ^ k)
    simp only [sumR_succ]
    constructor
    · rw [h1, h3, Nat.add_mul]; omega
    · rw [h2, h4]; omega
theorem bucket {p : Nat → Bool} {g : Nat → Nat} {k m : Nat} (h : Nat.ble (sumR (one p) k 0) (dgF m (sumR (pw p g) k 0)) = true) (v : Nat) : sumR (one fun x => p x && (g x == v)) k 0 ≤ 15 := by
  have h0 := Nat.le_of_ble_eq_true h
  rw [dgF_eq] at h0
  obtain ⟨h1, h2⟩ := pw_part p g v k 0
  rw [h1] at h0
  generalize hn : sumR (one fun x => p x && (g x == v)) k 0 = n at *
  have h3 := ds_add (2 ^ m) (n * 16 ^ v) (sumR (pw (fun x => p x && !(g x == v)) g) k 0)
  have h4 := ds_pow (2 ^ m) n v
  have h5 := pw_others (2 ^ m) (fun x => p x && !(g x == v)) g k 0
  refine Decidable.byContradiction fun hc => ?_
  have h6 := ds_lt (2 ^ m) (n := n) (by omega)
  omega
theorem cnt_add (q : Nat → Bool) (m : Nat) : ∀ n, cnt q (m + n) = cnt q m + cnt (fun x => q (m + x)) n
  | 0 => rfl
  | n + 1 => by
    show cnt q (m + n) + (if q (m + n) then 1 else 0) = cnt q m + (cnt (fun x => q (m + x)) n + (if q (m + n) then 1 else 0))
    rw [cnt_add q m n]; omega
theorem sumR_cnt (q : Nat → Bool) : ∀ k a, sumR (one q) k a = cnt (fun x => q (a + x)) (2 ^ k)
  | 0, a => by
    show cond (q a) 1 0 = 0 + if q (a + 0) then 1 else 0
    simp only [Nat.add_zero]
    cases q a <;> rfl
  | k + 1, a => by
    rw [sumR_succ, sumR_cnt q k a, sumR_cnt q k (a + 2 ^ k), Nat.pow_succ, Nat.mul_two, cnt_add]
    congr 1
    exact cnt_congr fun x _ => by rw [Nat.add_assoc]
/-- The hash of a label, quickly. -/
def hf (x : Nat) : Nat := Nat.mod (Nat.mul (Nat.xor x (Nat.div x 65536)) 73244475) 4294967296
def hm1 (y : Nat) : Nat := Nat.mod (Nat.xor y (Nat.div y 65536)) 65536
def hmN (x : Nat) : Nat := hm1 (hf (hf (Nat.xor 717219006 x)))
def seg (s x : Nat) : Bool := Nat.beq (Nat.div (hmN x) 16384) s
def low (x : Nat) : Nat := Nat.mod (hmN x) 16384
end Go.Proofs.Ytodnahpegecpiaa
namespace Go.Proofs.Ytodnahpegecpiaa
set_option linter.unusedSimpArgs false
set_option linter.unusedVariables false
theorem seg0 : Nat.ble (sumR (one (seg 0)) 16 0) (dgF 14 (sumR (pw (seg 0) low) 16 0)) = true := by kernel_rfl
theorem seg1 : Nat.ble (sumR (one (seg 1)) 16 0) (dgF 14 (sumR (pw (seg 1) low) 16 0)) = true := by kernel_rfl
theorem seg2 : Nat.ble (sumR (one (seg 2)) 16 0) (dgF 14 (sumR (pw (seg 2) low) 16 0)) = true := by kernel_rfl
theorem seg3 : Nat.ble (sumR (one (seg 3)) 16 0) (dgF 14 (sumR (pw (seg 3) low) 16 0)) = true := by kernel_rfl
theorem hk_c : mixN (mixN 77 ^^^ 999999) = 717219006 := by kernel_rfl
theorem hm_eq (x : Nat) : keyedN 77 999999 x % 65536 = hmN x := by
  show mixN (mixN (mixN 77 ^^^ 999999) ^^^ x) % 65536 = _
  rw [hk_c]
  rfl
theorem hm_lt (x : Nat) : hmN x < 65536 := Nat.mod_lt _ (by omega)
theorem hash_fast {x : Nat} (hx : x < 65536) : hashI (x : Int) 999999 = ((hmN x : Nat) : Int) := by
  have h1 : lab (x : Int) = true := lab_iff.2 (by omega)
  have h2 : inB 999999 0 1000000 = true := by decide
  have h3 := keyedI_nat (k := 77) (a := 999999) (b := x) (by omega) (by omega) (by omega)
  rw [hashI, h1, h2, ← hm_eq]
  simp only [Bool.and_self, if_true]
  rw [show keyedI 77 999999 (x : Int) = ((keyedN 77 999999 x : Nat) : Int) from h3]
  omega
theorem seg_low {v x : Nat} (h : hmN x = v) : (seg (v / 16384) x && (low x == v % 16384)) = true := by
  subst h
  rw [Bool.and_eq_true]
  exact ⟨Nat.beq_refl _, by unfold low; exact beq_self_eq_true _⟩
theorem cnt_seg (s v : Nat) (hs : s < 4) : cnt (fun x => seg s x && (low x == v)) 65536 ≤ 15 := by
  have key : ∀ {s}, Nat.ble (sumR (one (seg s)) 16 0) (dgF 14 (sumR (pw (seg s) low) 16 0)) = true → cnt (fun x => seg s x && (low x == v)) 65536 ≤ 15 := by
    intro s h
    have h1 := bucket h v
    rw [sumR_cnt] at h1
    have e : cnt (fun x => seg s (0 + x) && (low (0 + x) == v)) (2 ^ 16) = cnt (fun x => seg s x && (low x == v)) 65536 := by
      show cnt (fun x => seg s (0 + x) && (low (0 + x) == v)) 65536 = _
      exact cnt_congr fun x _ => by rw [Nat.zero_add]
    rw [← e]; exact h1
  match s, hs with
  | 0, _ => exact key seg0
  | 1, _ => exact key seg1
  | 2, _ => exact key seg2
  | 3, _ => exact key seg3
theorem cnt_hash (h : Int) : cnt (fun x => hashI (x : Int) 999999 == h) 65536 ≤ 15 := by
  by_cases hh : 0 ≤ h ∧ h < 65536
  · obtain ⟨v, rfl⟩ := Int.eq_ofNat_of_zero_le hh.1
    have h1 := cnt_mono (P := fun x : Nat => hashI (x : Int) 999999 == (v : Int)) (Q := fun x => seg (v / 16384) x && (low x == v % 16384)) (k := 65536) fun x hx e => by
      have e1 : hashI (x : Int) 999999 = (v : Int) := by simpa using e
      rw [hash_fast hx] at e1
      exact seg_low (by omega)
    exact Nat.le_trans h1 (cnt_seg _ _ (by omega))
  · rw [cnt_none]
    · omega
    · intro x hx
      rw [hash_fast hx, beq_eq_false_iff_ne]
      have := hm_lt x
      omega
theorem cnt_or (p q : Nat → Bool) : ∀ k, cnt (fun x => p x || q x) k ≤ cnt p k + cnt q k
  | 0 => Nat.le_refl _
  | k + 1 => by
    have ih := cnt_or p q k
    unfold cnt
    cases p k <;> cases q k <;> simp <;> omega
theorem acc_few (h0 h1 : Int) : cnt (accB h0 h1) 65536 ≤ 30 := by
  have e := cnt_or (fun x => hashI (x : Int) 999999 == h0) (fun x => hashI (x : Int) 999999 == h1) 65536
  have a := cnt_hash h0
  have b := cnt_hash h1
  exact Nat.le_trans e (by omega)
theorem acc_some {z h0 h1 : Int} (hz : lab z = true) (h : h0 = hashI z 999999) : 1 ≤ cnt (accB h0 h1) 65536 := by
  obtain ⟨n, rfl, hn⟩ := lab_nat hz
  exact cnt_one_le (a := n) (by omega) (by simp [accB, h])
end Go.Proofs.Ytodnahpegecpiaa
namespace Go.Proofs.Ytodnahpegecpiaa
set_option linter.unusedSimpArgs false
set_option linter.unusedVariables false
theorem lf0 {z d : Int} (hz : lab z = true) (hd : lab d = true) : labelFor z d 0 = z := by
  rw [labelFor, hz, hd, show inB 0 0 1 = true from rfl]; rfl
theorem lf1 {z d : Int} (hz : lab z = true) (hd : lab d = true) : labelFor z d 1 = bits .xor .i64 z d := by
  rw [labelFor, hz, hd, show inB 1 0 1 = true from rfl]; rfl
section
variable {l : List (Int × Int × Int)} {o : List Int} {s a : Int} {bs : List Int}
def sfH (l : List (Int × Int × Int)) (o : List Int) (s a : Int) : List (List Int) := ohL l o (garD l o s a) (garZ l o s a) (garT l o s a)
def sfL (l : List (Int × Int × Int)) (o : List Int) (s a : Int) (bs : List Int) : List Int := outL l o (rgW l o s a bs)
theorem rg_out (h : rgOk l o s a bs = true) : outOk l o (rgW l o s a bs) = true := by
  have hc := (and_true_of (and_true_of h).1).1
  rw [outOk, hc, rg_wires h, eXs_len]; simp
theorem rg_ec (h : rgOk l o s a bs = true) : ecOk l o bs = true := by
  rw [ecOk, (and_true_of (and_true_of h).1).1, (and_true_of h).2]; rfl
theorem sfH_yes (h : rgOk l o s a bs = true) : sfH l o s a = genLL (ohF o (garD l o s a) (garZ l o s a)) o.length := ohL_yes (gar_gb (and_true_of h).1)
theorem sfL_yes (h : rgOk l o s a bs = true) : sfL l o s a bs = genL (outF o (rgW l o s a bs)) o.length := outL_yes (rg_out h)
theorem sf_lens (h : rgOk l o s a bs = true) : (sfH l o s a).length = o.length ∧ (sfL l o s a bs).length = o.length ∧ (ecL l o bs).length = o.length := by
  rw [sfH_yes h, sfL_yes h, ecL_yes (rg_ec h), genLL_len, genL_len, genL_len]; exact ⟨rfl, rfl, rfl⟩
theorem safe_one (h : rgOk l o s a bs = true) {k : Nat} (hk : k < o.length) : ∃ z d v : Int, lab z = true ∧ lab d = true ∧ (v = 0 ∨ v = 1) ∧
    (sfH l o s a).getD k [] = [hashI z 999999, hashI (bits .xor .i64 z d) 999999] ∧ nth (sfL l o s a bs) k = labelFor z d v ∧ nth (ecL l o bs) k = v := by
  obtain ⟨hg, hb⟩ := and_true_of h
  obtain ⟨hc, hd⟩ := and_true_of hg
  obtain ⟨m, hm, hml⟩ := circ_out hc hk
  have hw := wires_right hg hb l.length (Nat.le_refl _) m hml
  refine ⟨nth (gZs s a (deltaOf s a) l l.length) m, deltaOf s a, nth (vXs bs l l.length) m, all_nth (gZs_lab hc (and_true_of hd).1 (deltaOf_lab s a) _ (Nat.le_refl _)) (by rw [gZs_len]; exact hml), deltaOf_lab s a, hw.2, ?_, ?_, ?_⟩
  · rw [sfH_yes h, genLL_at hk, ohF, hm, garZ_yes hg, garD_yes hg]; rfl
  · rw [sfL_yes h, genL_nth hk, outF, hm, rg_wires h]; exact hw.1
  · rw [ecL_yes (rg_ec h), genL_nth hk, outF, hm]; rfl
theorem hash_val {z d v : Int} (hz : lab z = true) (hd : lab d = true) (hv : v = 0 ∨ v = 1) : hashI (labelFor z d v) 999999 = if v = 0 then hashI z 999999 else hashI (bits .xor .i64 z d) 999999 := by
  rcases hv with rfl | rfl
  · rw [lf0 hz hd]; rfl
  · rw [lf1 hz hd]; rfl
theorem safe_ok (h : rgOk l o s a bs = true) : dsOk (sfH l o s a) (sfL l o s a bs) = true := by
  obtain ⟨e1, e2, _⟩ := sf_lens h
  refine dsOk_all (by rw [e1, e2]) fun k hk => ?_
  rw [e2] at hk
  obtain ⟨z, d, v, hz, hd, hv, h1, h2, h3⟩ := safe_one h hk
  rw [dsA, dsM, h1, h2, hash_val hz hd hv]
  have p1 := (ds_lab (labelFor z d v)).2 (labelFor_lab hz hd (inB_iff.2 (by omega)))
  rw [hash_val hz hd hv] at p1
  refine ⟨by rw [Bool.and_eq_true]; exact ⟨rfl, decide_eq_true p1⟩, ?_⟩
  rcases hv with rfl | rfl
  · simp [nth]
  · simp [nth]
theorem sfO_yes (h : rgOk l o s a bs = true) : dsO (sfH l o s a) (sfL l o s a bs) = genL (dsF (sfH l o s a) (sfL l o s a bs)) o.length := by rw [dsO_yes (safe_ok h), (sf_lens h).2.1]
theorem safe_dec (h : rgOk l o s a bs = true) {k : Nat} (hk : k < o.length) : ((sfH l o s a).getD k []).length = 2 ∧ (nth (dsO (sfH l o s a) (sfL l o s a bs)) k = nth (ecL l o bs) k ∨ nth ((sfH l o s a).getD k []) 0 = nth ((sfH l o s a).getD k []) 1) := by
  obtain ⟨z, d, v, hz, hd, hv, h1, h2, h3⟩ := safe_one h hk
  rw [sfO_yes h, genL_nth hk, dsF, h1, h2, h3, hash_val hz hd hv]
  refine ⟨rfl, ?_⟩
  show (if hashI z 999999 = _ then (0 : Int) else 1) = v ∨ hashI z 999999 = hashI (bits .xor .i64 z d) 999999
  rcases hv with rfl | rfl
  · left; simp
  · by_cases e : hashI z 999999 = hashI (bits .xor .i64 z d) 999999
    · right; exact e
    · left; simp [e]
theorem safe_cnt (h : rgOk l o s a bs = true) (h0 : 0 < o.length) : 1 ≤ countAcc ((sfH l o s a).getD 0 []) ∧ countAcc ((sfH l o s a).getD 0 []) ≤ 40 := by
  obtain ⟨z, d, v, hz, hd, hv, h1, h2, h3⟩ := safe_one h h0
  have e1 := acc_few (hashI z 999999) (hashI (bits .xor .i64 z d) 999999)
  have e2 := acc_some (h1 := hashI (bits .xor .i64 z d) 999999) hz rfl
  rw [h1]
  generalize hashI z 999999 = x at *
  generalize hashI (bits .xor .i64 z d) 999999 = y at *
  have ec : countAcc [x, y] = ((cnt (accB x y) 65536 : Nat) : Int) := if_pos rfl
  rw [ec]; omega
end
end Go.Proofs.Ytodnahpegecpiaa
namespace Go.Proofs.Ytodnahpegecpiaa
set_option linter.unusedSimpArgs false
set_option linter.unusedVariables false
open Go.RowKit
set_option maxRecDepth 100000 in
set_option maxHeartbeats 10000000 in
theorem walk_FnSafeOutputs (A : Option Addr) (n c : Nat) (w : World) (hx : Bts0 w A n) :
    Calls Try.prog 20 #[.slice A n c] w fun e w' => e = .returned (.bool true) ∧ Below w.heap.size w w' := by
  by_cases hn : (1048576 : Int) < n
  · go_enter Try.func20, Try.ntmps20
    go_wp2_with fail
    refine (big_any _ _ _ _).mono ?_
    rintro e w1 ⟨rfl, rfl⟩
    go_wp2
    go_ret
    exact ⟨rfl, Below.refl _ _⟩
  · have hB0 : Bts w A n := ⟨by omega, hx.2⟩
    go_enter Try.func20, Try.ntmps20
    go_wp2_with fail
    refine (big_any _ _ _ _).mono ?_
    rintro e w_ ⟨rfl, rfl⟩
    go_wp2_with fail
    refine (DrawGarbling_any n c A _ hB0).mono ?_
    rintro e w1 ⟨cA0, cn0, cc0, cA1, cn1, cc1, yA0, yn0, yc0, cL0, cL1, yL0, tI0, tI1, rfl, rd, hc, hg24, ho1, ho4, hbits, hdl, b1⟩
    have B1 := b1
    have z1 := b1.size
    have cL0n : cL0.length ≤ 1048576 := by omega
    have cL1n : cL1.length ≤ 1048576 := by omega
    have yl80 := Lib.hid (bits80 hbits).2
    have hyb := Lib.hid (bits80 hbits).1
    have yL0n : yL0.length ≤ 1048576 := by have := yl80.out; omega
    have hgar : Hid (garbOk cL0 cL1 tI0 tI1 = true) := by show _ = _; rw [garbOk, hc, hdl]; rfl
    have hrg : Hid (rgOk cL0 cL1 tI0 tI1 yL0 = true) := by show _ = _; rw [rgOk, hgar.out, hbits]; rfl
    have hec : Hid (ecOk cL0 cL1 yL0 = true) := by show _ = _; rw [ecOk, hc, hbits]; rfl
    have hgb := Lib.hid (gar_gb hgar.out)
    have hpb := Lib.hid (rg_pb hrg.out)
    have hZn : (garZ cL0 cL1 tI0 tI1).length ≤ 1048576 := Nat.le_trans (garZ_len _ _ _ _) cL0n
    have hTn : (garT cL0 cL1 tI0 tI1).length ≤ 1048576 := Nat.le_trans (garT_len _ _ _ _) (by omega)
    have hK := Lib.hid hc
    have hD := Lib.hid hdl
    have hB := Lib.hid hbits
    clear b1 hc hdl hbits
    have hP0 : (puT cL0 cL1 (garD cL0 cL1 tI0 tI1) (garZ cL0 cL1 tI0 tI1) (garT cL0 cL1 tI0 tI1)).length ≤ 1048576 := Nat.le_trans (puT_len _ _ _ _ _) hTn
    have hP1 : (puC cL0 cL1 (garD cL0 cL1 tI0 tI1) (garZ cL0 cL1 tI0 tI1) (garT cL0 cL1 tI0 tI1)).length ≤ 1048576 := Nat.le_trans (puC_len _ _ _ _ _) cL0n
    have hP2 : (puD cL0 cL1 (garD cL0 cL1 tI0 tI1) (garZ cL0 cL1 tI0 tI1) (garT cL0 cL1 tI0 tI1)).length ≤ 1048576 := Nat.le_trans (puD_len _ _ _ _ _) cL1n
    have hLn : (inLab tI0 tI1 yL0).length ≤ 1048576 := Nat.le_trans (inLab_len _ _ _) yL0n
    have hEn : (evL cL0 cL1 (puT cL0 cL1 (garD cL0 cL1 tI0 tI1) (garZ cL0 cL1 tI0 tI1) (garT cL0 cL1 tI0 tI1)) (puC cL0 cL1 (garD cL0 cL1 tI0 tI1) (garZ cL0 cL1 tI0 tI1) (garT cL0 cL1 tI0 tI1)) (puD cL0 cL1 (garD cL0 cL1 tI0 tI1) (garZ cL0 cL1 tI0 tI1) (garT cL0 cL1 tI0 tI1)) (inLab tI0 tI1 yL0)).length ≤ 1048576 := Nat.le_trans (evL_len _ _ _ _ _ _) cL0n
    have hev : Hid (evOk cL0 cL1 (puT cL0 cL1 (garD cL0 cL1 tI0 tI1) (garZ cL0 cL1 tI0 tI1) (garT cL0 cL1 tI0 tI1)) (puC cL0 cL1 (garD cL0 cL1 tI0 tI1) (garZ cL0 cL1 tI0 tI1) (garT cL0 cL1 tI0 tI1)) (puD cL0 cL1 (garD cL0 cL1 tI0 tI1) (garZ cL0 cL1 tI0 tI1) (garT cL0 cL1 tI0 tI1)) (inLab tI0 tI1 yL0) = true) := rg_ev hrg.out
    have hbd : BdLL (sfH cL0 cL1 tI0 tI1) := ohL_bd _ _ _ _ cL1n
    have hsl := Lib.hid (sf_lens hrg.out)
    have hok := Lib.hid (safe_ok hrg.out)
    have hdc := Lib.hid (fun (k : Nat) (hk : k < cL1.length) => safe_dec hrg.out hk)
    have hct := Lib.hid (safe_cnt hrg.out (by omega))
    have hol := Lib.hid (show (dsO (sfH cL0 cL1 tI0 tI1) (sfL cL0 cL1 tI0 tI1 yL0)).length = cL1.length by rw [sfO_yes hrg.out, genL_len])
    have hLn2 : (sfL cL0 cL1 tI0 tI1 yL0).length ≤ 1048576 := by rw [hsl.out.2.1]; exact cL1n
    go_wp2_with fail
    refine (sGarble_L (RdL.sub (ls2 := [(.slice cA0 cn0 cc0, .gates cL0), (.slice cA1 cn1 cc1, .ints cL1)]) (((rd.alloc _).alloc _)).rd (by simp)) cL0n cL1n tI0 tI1).mono ?_
    rintro e w2 ⟨pA1, pn1, pc1, pA2, pn2, pc2, rfl, rg, b2⟩
    have z2 := b2.size
    try simp only [World.size_alloc, World.size_setCell, size_drew] at z2
    have B2 : Below w.heap.size w w2 := Below.t b2
    have rd_ := ((rd.alloc _).alloc _).below b2
    clear rd; have rd := rd_; clear rd_
    have xc_ : Box w2 (w1.heap.size) #[.slice cA0 cn0 cc0, .slice cA1 cn1 cc1] 27 := ((Box.new (g := w1.heap.size) _ #[.slice cA0 cn0 cc0, .slice cA1 cn1 cc1] 27 (by simp)).alloc _).below b2 (by first | omega | (simp [size_drew]; done) | (simp [size_drew]; omega))
    have xc := xc_; clear xc_
    have xt_ : Box w2 (w1.heap.size + 1) #[.int .i64 tI0, .int .i64 tI1] 29 := (Box.new (g := w1.heap.size + 1) _ #[.int .i64 tI0, .int .i64 tI1] 29 (by simp)).below b2 (by first | omega | (simp [size_drew]; done) | (simp [size_drew]; omega))
    have xt := xt_; clear xt_
    try simp only [World.size_alloc, World.size_setCell, size_drew] at rg
    (try rw [hgar.out])
    obtain ⟨cxc_0, cxc_1, fxc_0, fxc_1⟩ := xc.two
    have l_xc_0 : w1.heap.size < w2.heap.size := by omega
    have l_xc_1 : w1.heap.size < w2.heap.size + 1 := by omega
    go_wp2_with fail
    refine (sPublicOf_L (RdL.sub (ls2 := [(.slice cA0 cn0 cc0, .gates cL0), (.slice cA1 cn1 cc1, .ints cL1)]) ((rd.alloc _)).rd (by simp)) cL0n cL1n (garD cL0 cL1 tI0 tI1) (rg.alloc _).rd hZn hTn).mono ?_
    rintro e w3 ⟨qA0, qn0, qc0, qA1, qn1, qc1, qA2, qn2, qc2, rfl, rp, b3⟩
    clear cxc_0 cxc_1 fxc_0 fxc_1 l_xc_0 l_xc_1
    have z3 := b3.size
    try simp only [World.size_alloc, World.size_setCell, size_drew] at z3
    have B3 : Below w.heap.size w w3 := Below.t b3
    have rd_ := (rd.alloc _).below b3
    clear rd; have rd := rd_; clear rd_
    have rg_ := (rg.alloc _).below b3
    clear rg; have rg := rg_; clear rg_
    have xc_ : Box w3 (w1.heap.size) #[.slice cA0 cn0 cc0, .slice cA1 cn1 cc1] 27 := (xc.alloc _).below b3 (by first | omega | (simp [size_drew]; done) | (simp [size_drew]; omega))
    clear xc; have xc := xc_; clear xc_
    have xt_ : Box w3 (w1.heap.size + 1) #[.int .i64 tI0, .int .i64 tI1] 29 := (xt.alloc _).below b3 (by first | omega | (simp [size_drew]; done) | (simp [size_drew]; omega))
    clear xt; have xt := xt_; clear xt_
    have xp_ : Box w3 (w2.heap.size) #[.int .i64 (garD cL0 cL1 tI0 tI1), .slice pA1 pn1 pc1, .slice pA2 pn2 pc2] 33 := (Box.new (g := w2.heap.size) _ #[.int .i64 (garD cL0 cL1 tI0 tI1), .slice pA1 pn1 pc1, .slice pA2 pn2 pc2] 33 (by simp)).below b3 (by first | omega | (simp [size_drew]; done) | (simp [size_drew]; omega))
    have xp := xp_; clear xp_
    try simp only [World.size_alloc, World.size_setCell, size_drew] at rp
    (try rw [hgb.out])
    obtain ⟨cxc_0, cxc_1, fxc_0, fxc_1⟩ := xc.two
    have l_xc_0 : w1.heap.size < w3.heap.size := by omega
    have l_xc_1 : w1.heap.size < w3.heap.size + 1 := by omega
    go_wp2_with fail
    clear cxc_0 cxc_1 fxc_0 fxc_1 l_xc_0 l_xc_1
    obtain ⟨cxc_0, cxc_1, fxc_0, fxc_1⟩ := xc.two
    have l_xc_0 : w1.heap.size < w3.heap.size := by omega
    have l_xc_1 : w1.heap.size < w3.heap.size + 1 := by omega
    obtain ⟨cxt_0, cxt_1, fxt_0, fxt_1⟩ := xt.two
    have l_xt_0 : w1.heap.size + 1 < w3.heap.size := by omega
    have l_xt_1 : w1.heap.size + 1 < w3.heap.size + 1 := by omega
    go_wp2_with fail
    clear cxc_0 cxc_1 fxc_0 fxc_1 l_xc_0 l_xc_1 cxt_0 cxt_1 fxt_0 fxt_1 l_xt_0 l_xt_1
    generalize hw4 : World.alloc _ _ = w4
    have z4 : w3.heap.size + 1 ≤ w4.heap.size := by rw [← hw4]; simp
    have B4 : Below w.heap.size w w4 := by rw [← hw4]; repeat (with_reducible (first | assumption | exact Below.refl _ _ | refine Below.alloc ?_ (by first | omega | (simp; done) | (simp; omega)) _ | refine Below.setCell ?_ (by first | omega | (simp; done) | (simp; omega)) _ | refine Below.drew ?_ | refine below_drewN ?_ _))
    have hK : ∀ k, k < w3.heap.size → w4.heap[k]? = w3.heap[k]? := by
      intro k hk; rw [← hw4]
      repeat (first | rfl | refine (Below.heap_alloc _ _ _ (by first | omega | (simp; omega))).trans ?_)
    have rd_ := rd.keepBlock (w' := w4) (by omega) (fun k h1 h2 => hK k  (by have := rd.2.1; omega))
    clear rd; have rd := rd_; clear rd_
    have rg_ := rg.keepBlock (w' := w4) (by omega) (fun k h1 h2 => hK k  (by have := rg.2.1; omega))
    clear rg; have rg := rg_; clear rg_
    have rp_ := rp.keepBlock (w' := w4) (by omega) (fun k h1 h2 => hK k  (by have := rp.2.1; omega))
    clear rp; have rp := rp_; clear rp_
    have xc_ : Box w4 (w1.heap.size) #[.slice cA0 cn0 cc0, .slice cA1 cn1 cc1] 27 := (by rw [← hw4]; exact (xc.alloc _))
    clear xc; have xc := xc_; clear xc_
    have xt_ : Box w4 (w1.heap.size + 1) #[.int .i64 tI0, .int .i64 tI1] 29 := (by rw [← hw4]; exact (xt.alloc _))
    clear xt; have xt := xt_; clear xt_
    have xp_ : Box w4 (w2.heap.size) #[.int .i64 (garD cL0 cL1 tI0 tI1), .slice pA1 pn1 pc1, .slice pA2 pn2 pc2] 33 := (by rw [← hw4]; exact (xp.alloc _))
    clear xp; have xp := xp_; clear xp_
    have xq_ : Box w4 (w3.heap.size) #[.slice qA0 qn0 qc0, .slice qA1 qn1 qc1, .slice qA2 qn2 qc2] 37 := (by rw [← hw4]; exact (Box.new (g := w3.heap.size) _ #[.slice qA0 qn0 qc0, .slice qA1 qn1 qc1, .slice qA2 qn2 qc2] 37 (by simp)))
    have xq := xq_; clear xq_
    clear hw4 hK
    refine wp_region_held_drew (S := fun W => W.cell? ⟨w1.heap.size, 0, none⟩ = some (.slice cA0 cn0 cc0) ∧ W.cell? ⟨w1.heap.size, 1, none⟩ = some (.slice cA1 cn1 cc1) ∧ W.cell? ⟨w3.heap.size, 0, none⟩ = some (.slice qA0 qn0 qc0) ∧ W.cell? ⟨w3.heap.size, 1, none⟩ = some (.slice qA1 qn1 qc1) ∧ W.cell? ⟨w3.heap.size, 2, none⟩ = some (.slice qA2 qn2 qc2) ∧ W.cell? ⟨w1.heap.size + 1, 0, none⟩ = some (.int .i64 tI0) ∧ W.cell? ⟨w1.heap.size + 1, 1, none⟩ = some (.int .i64 tI1)) (by kernel_rfl) ⟨xc.drew.two.1, xc.drew.two.2.1, xq.drew.three.1, xq.drew.three.2.1, xq.drew.three.2.2.1, xt.drew.two.1, xt.drew.two.2.1⟩ (fun hS => ?_)
    (refine tk 0 hS ?_; (try simp only [Act.put, layA, layB, layC]))
    (refine tk 1 hS ?_; (try simp only [Act.put, layA, layB, layC]))
    (refine tk 2 hS ?_; (try simp only [Act.put, layA, layB, layC]))
    (refine tk 3 hS ?_; (try simp only [Act.put, layA, layB, layC]))
    refine on 4 ?_
    refine callH (by go_simp; (first | done | with_reducible rfl | exact ⟨rfl, rfl⟩)) ?_
    go_at_call 53
    refine (sInputLabels_L tI0 tI1 (RdL.sub (ls2 := [(.slice yA0 yn0 yc0, .ints yL0)]) (rd.drew).rd (by simp)) yL0n).mono ?_
    rintro e w5 ⟨lA, ln, lc, rfl, rl, b5⟩
    clear hS
    have z5 := Below.size b5
    (try simp only [World.size_alloc, World.size_setCell, size_drew] at z5)
    have B5 : Below w.heap.size w w5 := Below.t b5
    have rd_ := (rd.drew.below b5)
    clear rd; have rd := rd_; clear rd_
    have rg_ := (rg.drew.below b5)
    clear rg; have rg := rg_; clear rg_
    have rp_ := (rp.drew.below b5)
    clear rp; have rp := rp_; clear rp_
    have xc_ : Box w5 (w1.heap.size) #[.slice cA0 cn0 cc0, .slice cA1 cn1 cc1] 27 := (Box.b xc.drew b5)
    clear xc; have xc := xc_; clear xc_
    have xt_ : Box w5 (w1.heap.size + 1) #[.int .i64 tI0, .int .i64 tI1] 29 := (Box.b xt.drew b5)
    clear xt; have xt := xt_; clear xt_
    have xp_ : Box w5 (w2.heap.size) #[.int .i64 (garD cL0 cL1 tI0 tI1), .slice pA1 pn1 pc1, .slice pA2 pn2 pc2] 33 := (Box.b xp.drew b5)
    clear xp; have xp := xp_; clear xp_
    have xq_ : Box w5 (w3.heap.size) #[.slice qA0 qn0 qc0, .slice qA1 qn1 qc1, .slice qA2 qn2 qc2] 37 := (Box.b xq.drew b5)
    clear xq; have xq := xq_; clear xq_
    (try simp only [World.size_alloc, World.size_setCell, size_drew] at rl)
    refine ⟨_, rfl, ⟨xc.two.1, xc.two.2.1, xq.three.1, xq.three.2.1, xq.three.2.2.1, xt.two.1, xt.two.2.1⟩, fun hS => ?_⟩
    (try simp only [Act.put, layA, layB, layC])
    refine on 5 ?_
    refine callH (by go_simp; (first | done | with_reducible rfl | exact ⟨rfl, rfl⟩)) ?_
    go_at_call 79
    refine (sEvalGarbled_L (RdL.sub (ls2 := [(.slice cA0 cn0 cc0, .gates cL0), (.slice cA1 cn1 cc1, .ints cL1)]) (rd).rd (by simp)) cL0n cL1n rp.rd hP0 hP1 hP2 rl.rd hLn).mono ?_
    rintro e w6 ⟨vA, vn, vc, rfl, rv, b6⟩
    clear hS
    have z6 := Below.size b6
    (try simp only [World.size_alloc, World.size_setCell, size_drew] at z6)
    have B6 : Below w.heap.size w w6 := Below.t b6
    have rd_ := (rd.below b6)
    clear rd; have rd := rd_; clear rd_
    have rg_ := (rg.below b6)
    clear rg; have rg := rg_; clear rg_
    have rp_ := (rp.below b6)
    clear rp; have rp := rp_; clear rp_
    have rl_ := (rl.below b6)
    clear rl; have rl := rl_; clear rl_
    have xc_ : Box w6 (w1.heap.size) #[.slice cA0 cn0 cc0, .slice cA1 cn1 cc1] 27 := (Box.b xc b6)
    clear xc; have xc := xc_; clear xc_
    have xt_ : Box w6 (w1.heap.size + 1) #[.int .i64 tI0, .int .i64 tI1] 29 := (Box.b xt b6)
    clear xt; have xt := xt_; clear xt_
    have xp_ : Box w6 (w2.heap.size) #[.int .i64 (garD cL0 cL1 tI0 tI1), .slice pA1 pn1 pc1, .slice pA2 pn2 pc2] 33 := (Box.b xp b6)
    clear xp; have xp := xp_; clear xp_
    have xq_ : Box w6 (w3.heap.size) #[.slice qA0 qn0 qc0, .slice qA1 qn1 qc1, .slice qA2 qn2 qc2] 37 := (Box.b xq b6)
    clear xq; have xq := xq_; clear xq_
    (try simp only [World.size_alloc, World.size_setCell, size_drew] at rv)
    refine ⟨_, rfl, ⟨xc.two.1, xc.two.2.1, xq.three.1, xq.three.2.1, xq.three.2.2.1, xt.two.1, xt.two.2.1⟩, fun hS => ?_⟩
    (try simp only [Act.put, layA, layB, layC])
    (refine tk 6 hS ?_; (try simp only [Act.put, layA, layB, layC]))
    (refine tk 7 hS ?_; (try simp only [Act.put, layA, layB, layC]))
    (refine tk 8 hS ?_; (try simp only [Act.put, layA, layB, layC]))
    (refine tk 9 hS ?_; (try simp only [Act.put, layA, layB, layC]))
    (refine tk 10 hS ?_; (try simp only [Act.put, layA, layB, layC]))
    clear hS
    refine wpAnyH_done (by kernel_rfl) ?_ _
    (try rw [hev.out])
    obtain ⟨cxc_0, cxc_1, fxc_0, fxc_1⟩ := xc.two
    have l_xc_0 : w1.heap.size < w6.heap.size := by omega
    obtain ⟨cxp_0, cxp_1, cxp_2, fxp_0, fxp_1, fxp_2⟩ := xp.three
    have l_xp_0 : w2.heap.size < w6.heap.size := by omega
    go_wp2_with fail
    refine (iOutputHashes_L (RdL.sub (ls2 := [(.slice cA0 cn0 cc0, .gates cL0), (.slice cA1 cn1 cc1, .ints cL1)]) (rd).rd (by simp)) cL0n cL1n (garD cL0 cL1 tI0 tI1) rg.rd hZn hTn).mono ?_
    rintro e w7 ⟨hA, hn, hk2, rfl, rh, b7⟩
    clear cxc_0 cxc_1 fxc_0 fxc_1 l_xc_0 cxp_0 cxp_1 cxp_2 fxp_0 fxp_1 fxp_2 l_xp_0
    have z7 := b7.size
    try simp only [World.size_alloc, World.size_setCell, size_drew] at z7
    have B7 : Below w.heap.size w w7 := Below.t b7
    have rd_ := rd.below b7
    clear rd; have rd := rd_; clear rd_
    have rg_ := rg.below b7
    clear rg; have rg := rg_; clear rg_
    have rp_ := rp.below b7
    clear rp; have rp := rp_; clear rp_
    have rl_ := rl.below b7
    clear rl; have rl := rl_; clear rl_
    have rv_ := rv.below b7
    clear rv; have rv := rv_; clear rv_
    have xc_ : Box w7 (w1.heap.size) #[.slice cA0 cn0 cc0, .slice cA1 cn1 cc1] 27 := xc.below b7 (by first | omega | (simp [size_drew]; done) | (simp [size_drew]; omega))
    clear xc; have xc := xc_; clear xc_
    have xt_ : Box w7 (w1.heap.size + 1) #[.int .i64 tI0, .int .i64 tI1] 29 := xt.below b7 (by first | omega | (simp [size_drew]; done) | (simp [size_drew]; omega))
    clear xt; have xt := xt_; clear xt_
    have xp_ : Box w7 (w2.heap.size) #[.int .i64 (garD cL0 cL1 tI0 tI1), .slice pA1 pn1 pc1, .slice pA2 pn2 pc2] 33 := xp.below b7 (by first | omega | (simp [size_drew]; done) | (simp [size_drew]; omega))
    clear xp; have xp := xp_; clear xp_
    have xq_ : Box w7 (w3.heap.size) #[.slice qA0 qn0 qc0, .slice qA1 qn1 qc1, .slice qA2 qn2 qc2] 37 := xq.below b7 (by first | omega | (simp [size_drew]; done) | (simp [size_drew]; omega))
    clear xq; have xq := xq_; clear xq_
    try simp only [World.size_alloc, World.size_setCell, size_drew] at rh
    change OwnG _ _ _ _ (sfH cL0 cL1 tI0 tI1) at rh
    obtain ⟨cxc_0, cxc_1, fxc_0, fxc_1⟩ := xc.two
    have l_xc_0 : w1.heap.size < w7.heap.size := by omega
    go_wp2_with fail
    refine (iOutputLabels_L (RdL.sub (ls2 := [(.slice cA0 cn0 cc0, .gates cL0), (.slice cA1 cn1 cc1, .ints cL1)]) (rd).rd (by simp)) cL0n cL1n rv.rd hEn).mono ?_
    rintro e w8 ⟨oA0, on0, oc0, rfl, rw0, b8⟩
    clear cxc_0 cxc_1 fxc_0 fxc_1 l_xc_0
    have z8 := b8.size
    try simp only [World.size_alloc, World.size_setCell, size_drew] at z8
    have B8 : Below w.heap.size w w8 := Below.t b8
    have rd_ := rd.below b8
    clear rd; have rd := rd_; clear rd_
    have rg_ := rg.below b8
    clear rg; have rg := rg_; clear rg_
    have rp_ := rp.below b8
    clear rp; have rp := rp_; clear rp_
    have rl_ := rl.below b8
    clear rl; have rl := rl_; clear rl_
    have rv_ := rv.below b8
    clear rv; have rv := rv_; clear rv_
    have rh_ := rh.below b8
    clear rh; have rh := rh_; clear rh_
    have xc_ : Box w8 (w1.heap.size) #[.slice cA0 cn0 cc0, .slice cA1 cn1 cc1] 27 := xc.below b8 (by first | omega | (simp [size_drew]; done) | (simp [size_drew]; omega))
    clear xc; have xc := xc_; clear xc_
    have xt_ : Box w8 (w1.heap.size + 1) #[.int .i64 tI0, .int .i64 tI1] 29 := xt.below b8 (by first | omega | (simp [size_drew]; done) | (simp [size_drew]; omega))
    clear xt; have xt := xt_; clear xt_
    have xp_ : Box w8 (w2.heap.size) #[.int .i64 (garD cL0 cL1 tI0 tI1), .slice pA1 pn1 pc1, .slice pA2 pn2 pc2] 33 := xp.below b8 (by first | omega | (simp [size_drew]; done) | (simp [size_drew]; omega))
    clear xp; have xp := xp_; clear xp_
    have xq_ : Box w8 (w3.heap.size) #[.slice qA0 qn0 qc0, .slice qA1 qn1 qc1, .slice qA2 qn2 qc2] 37 := xq.below b8 (by first | omega | (simp [size_drew]; done) | (simp [size_drew]; omega))
    clear xq; have xq := xq_; clear xq_
    try simp only [World.size_alloc, World.size_setCell, size_drew] at rw0
    change OwnL _ _ _ [(.slice oA0 on0 oc0, .ints (sfL cL0 cL1 tI0 tI1 yL0))] at rw0
    obtain ⟨cxc_0, cxc_1, fxc_0, fxc_1⟩ := xc.two
    have l_xc_0 : w1.heap.size < w8.heap.size := by omega
    go_wp2_with fail
    refine (sEvalCircuit_L (RdL.sub (ls2 := [(.slice cA0 cn0 cc0, .gates cL0), (.slice cA1 cn1 cc1, .ints cL1)]) (rd).rd (by simp)) cL0n cL1n (RdL.sub (ls2 := [(.slice yA0 yn0 yc0, .ints yL0)]) (rd).rd (by simp)) yL0n).mono ?_
    rintro e w9 ⟨aA, an, ac, rfl, ra, b9⟩
    clear cxc_0 cxc_1 fxc_0 fxc_1 l_xc_0
    have z9 := b9.size
    try simp only [World.size_alloc, World.size_setCell, size_drew] at z9
    have B9 : Below w.heap.size w w9 := Below.t b9
    have rd_ := rd.below b9
    clear rd; have rd := rd_; clear rd_
    have rg_ := rg.below b9
    clear rg; have rg := rg_; clear rg_
    have rp_ := rp.below b9
    clear rp; have rp := rp_; clear rp_
    have rl_ := rl.below b9
    clear rl; have rl := rl_; clear rl_
    have rv_ := rv.below b9
    clear rv; have rv := rv_; clear rv_
    have rh_ := rh.below b9
    clear rh; have rh := rh_; clear rh_
    have rw0_ := rw0.below b9
    clear rw0; have rw0 := rw0_; clear rw0_
    have xc_ : Box w9 (w1.heap.size) #[.slice cA0 cn0 cc0, .slice cA1 cn1 cc1] 27 := xc.below b9 (by first | omega | (simp [size_drew]; done) | (simp [size_drew]; omega))
    clear xc; have xc := xc_; clear xc_
    have xt_ : Box w9 (w1.heap.size + 1) #[.int .i64 tI0, .int .i64 tI1] 29 := xt.below b9 (by first | omega | (simp [size_drew]; done) | (simp [size_drew]; omega))
    clear xt; have xt := xt_; clear xt_
    have xp_ : Box w9 (w2.heap.size) #[.int .i64 (garD cL0 cL1 tI0 tI1), .slice pA1 pn1 pc1, .slice pA2 pn2 pc2] 33 := xp.below b9 (by first | omega | (simp [size_drew]; done) | (simp [size_drew]; omega))
    clear xp; have xp := xp_; clear xp_
    have xq_ : Box w9 (w3.heap.size) #[.slice qA0 qn0 qc0, .slice qA1 qn1 qc1, .slice qA2 qn2 qc2] 37 := xq.below b9 (by first | omega | (simp [size_drew]; done) | (simp [size_drew]; omega))
    clear xq; have xq := xq_; clear xq_
    try simp only [World.size_alloc, World.size_setCell, size_drew] at ra
    generalize sfH cL0 cL1 tI0 tI1 = HH at *
    generalize sfL cL0 cL1 tI0 tI1 yL0 = LL at *
    generalize ecL cL0 cL1 yL0 = AA at *
    go_wp2_with fail
    refine (iDecodeSafe_L rh.rd hbd rw0.rd hLn2).mono ?_
    rintro e w10 ⟨dA, dn, dc, rfl, ro, b10⟩
    have z10 := b10.size
    try simp only [World.size_alloc, World.size_setCell, size_drew] at z10
    have B10 : Below w.heap.size w w10 := Below.t b10
    have rd_ := rd.below b10
    clear rd; have rd := rd_; clear rd_
    have rg_ := rg.below b10
    clear rg; have rg := rg_; clear rg_
    have rp_ := rp.below b10
    clear rp; have rp := rp_; clear rp_
    have rl_ := rl.below b10
    clear rl; have rl := rl_; clear rl_
    have rv_ := rv.below b10
    clear rv; have rv := rv_; clear rv_
    have rh_ := rh.below b10
    clear rh; have rh := rh_; clear rh_
    have rw0_ := rw0.below b10
    clear rw0; have rw0 := rw0_; clear rw0_
    have ra_ := ra.below b10
    clear ra; have ra := ra_; clear ra_
    have xc_ : Box w10 (w1.heap.size) #[.slice cA0 cn0 cc0, .slice cA1 cn1 cc1] 27 := xc.below b10 (by first | omega | (simp [size_drew]; done) | (simp [size_drew]; omega))
    clear xc; have xc := xc_; clear xc_
    have xt_ : Box w10 (w1.heap.size + 1) #[.int .i64 tI0, .int .i64 tI1] 29 := xt.below b10 (by first | omega | (simp [size_drew]; done) | (simp [size_drew]; omega))
    clear xt; have xt := xt_; clear xt_
    have xp_ : Box w10 (w2.heap.size) #[.int .i64 (garD cL0 cL1 tI0 tI1), .slice pA1 pn1 pc1, .slice pA2 pn2 pc2] 33 := xp.below b10 (by first | omega | (simp [size_drew]; done) | (simp [size_drew]; omega))
    clear xp; have xp := xp_; clear xp_
    have xq_ : Box w10 (w3.heap.size) #[.slice qA0 qn0 qc0, .slice qA1 qn1 qc1, .slice qA2 qn2 qc2] 37 := xq.below b10 (by first | omega | (simp [size_drew]; done) | (simp [size_drew]; omega))
    clear xq; have xq := xq_; clear xq_
    try simp only [World.size_alloc, World.size_setCell, size_drew] at ro
    rw [hok.out]
    generalize dsO HH LL = OO at *
    clear xc
    clear xt
    clear xp
    clear xq
    obtain rfl : an = dn := by rw [ownLen (A := aA) (n := an) (c := ac) (l := AA) ra (by simp), ownLen (A := dA) (n := dn) (c := dc) (l := OO) ro (by simp), hsl.out.2.2, hol.out]
    obtain rfl : on0 = an := by rw [ownLen (A := aA) (n := an) (c := ac) (l := AA) ra (by simp), ownLen (A := oA0) (n := on0) (c := oc0) (l := LL) rw0 (by simp), hsl.out.2.2, hsl.out.2.1]
    obtain rfl : hn = on0 := by rw [← rh.rd.len, ownLen (A := oA0) (n := on0) (c := oc0) (l := LL) rw0 (by simp), hsl.out.1, hsl.out.2.1]
    have hnl := Lib.hid (show cL1.length = hn by rw [← rh.rd.len, hsl.out.1])
    (try clear rd)
    (try clear rg)
    (try clear rp)
    (try clear rl)
    (try clear rv)
    (try clear rw0)
    go_wp2_with fail
    go_loopw [18] (fun i wr => ∃ (k l9 h9 : Nat) (l0 h0 l1 h1 : Nat), k ≤ hn ∧ i = .int .i64 k ∧ Hid (OwnL wr l0 h0 [(.slice aA hn ac, .ints AA)]) ∧ Hid (OwnL wr l1 h1 [(.slice dA hn dc, .ints OO)]) ∧ Hid (OwnG wr l9 h9 (.slice hA hn hk2) HH) ∧ Below w.heap.size w wr) (fun i wr => hn - (intOf i).toNat)
    case atStart => exact ⟨0, _, _, _, _, _, _, by omega, rfl, ra, ro, rh, B10⟩
    case round =>
      obtain ⟨k, l9, h9, l0, h0, l1, h1, hk, rfl, ra, ro, rh, B30⟩ := hrel
      obtain ⟨w30, hw30⟩ : ∃ x, x = wr := ⟨wr, rfl⟩
      subst hw30
      replace ra := ra.out
      replace ro := ro.out
      replace rh := rh.out
      have z30 := B30.size
      by_cases hlt : k < hn
      · obtain ⟨gh, oh, u, rfl, hgh, hcu, hru, hll⟩ := rh.rd.at hlt
        have hkl : k < cL1.length := by rw [hnl.out]; exact hlt
        obtain ⟨hd2, hdd⟩ := hdc.out k hkl
        obtain ⟨uA, un, uc, rfl, hI⟩ := hru
        have hul := hI.len
        rw [hd2] at hul
        subst hul
        obtain ⟨gu, ou, rfl, hgu, hcc⟩ := hI.block (by omega)
        have hc0 := hcc 0 (by omega)
        have hc1 := hcc 1 (by omega)
        clear hcc hI
        generalize HH.getD k [] = RR at *
        obtain ⟨ga, oa, rfl⟩ := ra.some (by rw [hsl.out.2.2]; omega)
        obtain ⟨gd, od, rfl⟩ := ro.some (by rw [hol.out]; omega)
        replace hd2 := Lib.hid hd2
        replace hll := Lib.hid hll
        by_cases he : nth OO k = nth AA k
        · have hne : (nth OO k != nth AA k) = false := by simp [he]
          replace he := Lib.hid he
          clear hdd
          go_wp2_with fail
          refine wp_region_held_drew (S := fun W => W.cell? ⟨gh, oh + k, none⟩ = some (.slice (some ⟨gu, ou, none⟩) 2 uc) ∧ W.cell? ⟨gu, ou, none⟩ = some (.int .i64 (nth RR 0)) ∧ W.cell? ⟨gu, ou + 1, none⟩ = some (.int .i64 (nth RR 1)) ∧ W.cell? ⟨gd, od + k, none⟩ = some (.int .i64 (nth OO k)) ∧ W.cell? ⟨ga, oa + k, none⟩ = some (.int .i64 (nth AA k))) (by kernel_rfl) ⟨hcu, hc0, hc1, (ownCell (l := OO) (ro.drew) (List.mem_cons_self) k (by rw [hol.out]; exact hkl)), (ownCell (l := AA) (ra.drew) (List.mem_cons_self) k (by rw [hsl.out.2.2]; exact hkl))⟩ (fun hS => ?_)
          (refine tk 0 hS ?_; (try simp only [Act.put, layA, layB, layC]))
          (refine tk 1 hS ?_; (try simp only [Act.put, layA, layB, layC]))
          (refine tk 2 hS ?_; (try simp only [Act.put, layA, layB, layC]))
          (refine tk 3 hS ?_; (try simp only [Act.put, layA, layB, layC]))
          (refine tk 4 hS ?_; (try simp only [Act.put, layA, layB, layC]))
          (refine tk 5 hS ?_; (try simp only [Act.put, layA, layB, layC]))
          (refine tk 6 hS ?_; (try simp only [Act.put, layA, layB, layC]))
          (refine tk 7 hS ?_; (try simp only [Act.put, layA, layB, layC]))
          (refine tk 8 hS ?_; (try simp only [Act.put, layA, layB, layC]))
          (refine tk 9 hS ?_; (try simp only [Act.put, layA, layB, layC]))
          (refine tk 10 hS ?_; (try simp only [Act.put, layA, layB, layC]))
          (refine tk 11 hS ?_; (try simp only [Act.put, layA, layB, layC]))
          (refine tk 12 hS ?_; (try simp only [Act.put, layA, layB, layC]))
          (refine tk 13 hS ?_; (try simp only [Act.put, layA, layB, layC]))
          (refine tk 14 hS ?_; (try simp only [Act.put, layA, layB, layC]))
          (refine tk 15 hS ?_; (try simp only [Act.put, layA, layB, layC]))
          (refine tk 16 hS ?_; (try simp only [Act.put, layA, layB, layC]))
          (refine ps 17 hS ?_; (try simp only [Act.put, layA, layB, layC]))
          (refine ps 18 hS ?_; (try simp only [Act.put, layA, layB, layC]))
          (refine ps 19 hS ?_; (try simp only [Act.put, layA, layB, layC]))
          (refine ps 20 hS ?_; (try simp only [Act.put, layA, layB, layC]))
          (refine ps 21 hS ?_; (try simp only [Act.put, layA, layB, layC]))
          (refine ps 22 hS ?_; (try simp only [Act.put, layA, layB, layC]))
          (refine ps 23 hS ?_; (try simp only [Act.put, layA, layB, layC]))
          (refine ps 24 hS ?_; (try simp only [Act.put, layA, layB, layC]))
          (refine ps 25 hS ?_; (try simp only [Act.put, layA, layB, layC]))
          (refine ps 26 hS ?_; (try simp only [Act.put, layA, layB, layC]))
          (refine ps 27 hS ?_; (try simp only [Act.put, layA, layB, layC]))
          (refine ps 28 hS ?_; (try simp only [Act.put, layA, layB, layC]))
          (refine ps 29 hS ?_; (try simp only [Act.put, layA, layB, layC]))
          (refine tk 30 hS ?_; (try simp only [Act.put, layA, layB, layC]))
          (refine tk 31 hS ?_; (try simp only [Act.put, layA, layB, layC]))
          clear hS
          refine wpAnyH_done (by kernel_rfl) ?_ _
          generalize hw31 : World.drew _ = w31
          have z31 : w30.heap.size ≤ w31.heap.size := by rw [← hw31]; simp [size_drew]
          have B31 : Below w.heap.size w w31 := by rw [← hw31]; repeat (with_reducible (first | assumption | exact Below.refl _ _ | refine Below.alloc ?_ (by first | omega | (simp; done) | (simp; omega)) _ | refine Below.setCell ?_ (by first | omega | (simp; done) | (simp; omega)) _ | refine Below.drew ?_ | refine below_drewN ?_ _))
          have hK : ∀ k, k < w30.heap.size → w31.heap[k]? = w30.heap[k]? := by
            intro k hk; rw [← hw31]
            repeat (first | rfl | refine (Below.heap_alloc _ _ _ (by first | omega | (simp; omega))).trans ?_)
          have ra_ := ra.keepBlock (w' := w31) (by omega) (fun k h1 h2 => hK k  (by have := ra.2.1; omega))
          clear ra; have ra := ra_; clear ra_
          have ro_ := ro.keepBlock (w' := w31) (by omega) (fun k h1 h2 => hK k  (by have := ro.2.1; omega))
          clear ro; have ro := ro_; clear ro_
          have rh_ := rh.keepBlock (w' := w31) (by omega) (fun k h1 h2 => hK k  (by have := rh.lo.2; omega))
          clear rh; have rh := rh_; clear rh_
          clear hw31 hK
          go_wp2
          go_roundw
          case rel => exact ⟨k + 1, _, _, _, _, _, _, by omega, by go_num, ra, ro, rh, B31⟩
          case measure => simp [intOf]; omega
        · have hne : (nth OO k != nth AA k) = true := by simp [he]
          have hnf : (nth RR 0 != nth RR 1) = false := by rcases hdd with h | h; (exact absurd h he); (simp [h])
          replace he := Lib.hid he
          clear hdd
          go_wp2_with fail
          refine wp_region_held_drew (S := fun W => W.cell? ⟨gh, oh + k, none⟩ = some (.slice (some ⟨gu, ou, none⟩) 2 uc) ∧ W.cell? ⟨gu, ou, none⟩ = some (.int .i64 (nth RR 0)) ∧ W.cell? ⟨gu, ou + 1, none⟩ = some (.int .i64 (nth RR 1)) ∧ W.cell? ⟨gd, od + k, none⟩ = some (.int .i64 (nth OO k)) ∧ W.cell? ⟨ga, oa + k, none⟩ = some (.int .i64 (nth AA k))) (by kernel_rfl) ⟨hcu, hc0, hc1, (ownCell (l := OO) (ro.drew) (List.mem_cons_self) k (by rw [hol.out]; exact hkl)), (ownCell (l := AA) (ra.drew) (List.mem_cons_self) k (by rw [hsl.out.2.2]; exact hkl))⟩ (fun hS => ?_)
          (refine tk 0 hS ?_; (try simp only [Act.put, layA, layB, layC]))
          (refine tk 1 hS ?_; (try simp only [Act.put, layA, layB, layC]))
          (refine tk 2 hS ?_; (try simp only [Act.put, layA, layB, layC]))
          (refine tk 3 hS ?_; (try simp only [Act.put, layA, layB, layC]))
          (refine tk 4 hS ?_; (try simp only [Act.put, layA, layB, layC]))
          (refine tk 5 hS ?_; (try simp only [Act.put, layA, layB, layC]))
          (refine tk 6 hS ?_; (try simp only [Act.put, layA, layB, layC]))
          (refine tk 7 hS ?_; (try simp only [Act.put, layA, layB, layC]))
          (refine tk 8 hS ?_; (try simp only [Act.put, layA, layB, layC]))
          (refine tk 9 hS ?_; (try simp only [Act.put, layA, layB, layC]))
          (refine tk 10 hS ?_; (try simp only [Act.put, layA, layB, layC]))
          (refine tk 11 hS ?_; (try simp only [Act.put, layA, layB, layC]))
          (refine tk 12 hS ?_; (try simp only [Act.put, layA, layB, layC]))
          (refine tk 13 hS ?_; (try simp only [Act.put, layA, layB, layC]))
          (refine tk 14 hS ?_; (try simp only [Act.put, layA, layB, layC]))
          (refine tk 15 hS ?_; (try simp only [Act.put, layA, layB, layC]))
          (refine tk 16 hS ?_; (try simp only [Act.put, layA, layB, layC]))
          (refine tk 17 hS ?_; (try simp only [Act.put, layA, layB, layC]))
          (refine tk 18 hS ?_; (try simp only [Act.put, layA, layB, layC]))
          (refine tk 19 hS ?_; (try simp only [Act.put, layA, layB, layC]))
          (refine tk 20 hS ?_; (try simp only [Act.put, layA, layB, layC]))
          (refine tk 21 hS ?_; (try simp only [Act.put, layA, layB, layC]))
          (refine tk 22 hS ?_; (try simp only [Act.put, layA, layB, layC]))
          (refine tk 23 hS ?_; (try simp only [Act.put, layA, layB, layC]))
          (refine tk 24 hS ?_; (try simp only [Act.put, layA, layB, layC]))
          (refine tk 25 hS ?_; (try simp only [Act.put, layA, layB, layC]))
          (refine tk 26 hS ?_; (try simp only [Act.put, layA, layB, layC]))
          (refine tk 27 hS ?_; (try simp only [Act.put, layA, layB, layC]))
          (refine tk 28 hS ?_; (try simp only [Act.put, layA, layB, layC]))
          (refine tk 29 hS ?_; (try simp only [Act.put, layA, layB, layC]))
          (refine tk 30 hS ?_; (try simp only [Act.put, layA, layB, layC]))
          (refine tk 31 hS ?_; (try simp only [Act.put, layA, layB, layC]))
          clear hS
          refine wpAnyH_done (by kernel_rfl) ?_ _
          generalize hw31 : World.drew _ = w31
          have z31 : w30.heap.size ≤ w31.heap.size := by rw [← hw31]; simp [size_drew]
          have B31 : Below w.heap.size w w31 := by rw [← hw31]; repeat (with_reducible (first | assumption | exact Below.refl _ _ | refine Below.alloc ?_ (by first | omega | (simp; done) | (simp; omega)) _ | refine Below.setCell ?_ (by first | omega | (simp; done) | (simp; omega)) _ | refine Below.drew ?_ | refine below_drewN ?_ _))
          have hK : ∀ k, k < w30.heap.size → w31.heap[k]? = w30.heap[k]? := by
            intro k hk; rw [← hw31]
            repeat (first | rfl | refine (Below.heap_alloc _ _ _ (by first | omega | (simp; omega))).trans ?_)
          have ra_ := ra.keepBlock (w' := w31) (by omega) (fun k h1 h2 => hK k  (by have := ra.2.1; omega))
          clear ra; have ra := ra_; clear ra_
          have ro_ := ro.keepBlock (w' := w31) (by omega) (fun k h1 h2 => hK k  (by have := ro.2.1; omega))
          clear ro; have ro := ro_; clear ro_
          have rh_ := rh.keepBlock (w' := w31) (by omega) (fun k h1 h2 => hK k  (by have := rh.lo.2; omega))
          clear rh; have rh := rh_; clear rh_
          clear hw31 hK
          go_wp2
          go_roundw
          case rel => exact ⟨k + 1, _, _, _, _, _, _, by omega, by go_num, ra, ro, rh, B31⟩
          case measure => simp [intOf]; omega
      · have hkn : ¬ (k : Int) < (hn : Int) := by omega
        have hn0 : 0 < hn := by have := hnl.out; omega
        obtain ⟨gh, oh, u, rfl, hgh, hcu, hru, hll⟩ := rh.rd.at hn0
        simp only [Nat.add_zero] at hcu
        obtain ⟨hd2, _⟩ := hdc.out 0 (by omega)
        replace hd2 := Lib.hid hd2
        replace hll := Lib.hid hll
        obtain ⟨uA, un, uc, rfl, hI⟩ := hru
        obtain ⟨hc1, hc2⟩ := hct.out
        go_wp2_with fail
        refine (iCountAccepted_L (RdL.one ⟨_, _, _, rfl, hI⟩) (by rw [hd2.out]; omega)).mono ?_
        rintro e w31 ⟨rfl, b31⟩
        have z31 := b31.size
        try simp only [World.size_alloc, World.size_setCell, size_drew] at z31
        have B31 : Below w.heap.size w w31 := Below.t b31
        have ra_ := ra.below b31
        clear ra; have ra := ra_; clear ra_
        have ro_ := ro.below b31
        clear ro; have ro := ro_; clear ro_
        have rh_ := rh.below b31
        clear rh; have rh := rh_; clear rh_
        generalize countAcc (HH.getD 0 []) = C at *
        go_wp2
        go_ret
        exact ⟨ret_bool (by first | (simp; done) | (simp; omega)), by repeat (with_reducible (first | assumption | exact Below.refl _ _ | refine Below.alloc ?_ (by first | omega | (simp; done) | (simp; omega)) _ | refine Below.setCell ?_ (by first | omega | (simp; done) | (simp; omega)) _ | refine Below.drew ?_ | refine below_drewN ?_ _))⟩
end Go.Proofs.Ytodnahpegecpiaa
namespace Go.Proofs.Ytodnahpegecpiaa
set_option linter.unusedSimpArgs false
set_option linter.unusedVariables false
open Go.ChangeShapes Go.WideShapes Go.ChangeAt Go.RowKit
set_option maxRecDepth 100000 in
theorem lifted_FnSafeOutputs (os : Os) (started : os.Started) (H : Type) (enc : TypeId × Value → H) :
    ReturnsInHanded {} Try.checked os 20 .any (Rows.fnSafeOutputsSpec.pre6 enc Try.prog Try.f20 Rows.fnSafeOutputsRow.domain false) (Rows.fnSafeOutputsSpec.post enc Try.prog Try.f20 false true false false) := by
  refine returnsInHanded_of_change (C := Try.checked) ownKnob_none started (by kernel_rfl) Try.func20
    (ChangeSpec.witness6 (enc := enc) (C := Try.checked) false ⟨#[], #[.slice none 0 0], []⟩ 8 (by kernel_rfl) (by kernel_rfl) (by kernel_rfl) (by kernel_rfl)) ?_
  intro W base args ds gs before hval0 hW hcnd _
  have hval : ∀ (j : Nat) t v, Try.f20.params[j]? = some t → args[j]? = some v → Value.okWide Try.prog W .any base t v := hval0
  have hW2 := hW
  obtain ⟨p, q, hA0, hV, rfl, hfz, hnd⟩ := hW
  have hA : DataW.TrodAll enc Try.prog W 0 (fun _ => true) true Try.f20.params.toList args.toList ds p := hA0
  rw [Try.params20] at hA hval
  obtain ⟨v0, vs0, d0, ds0, p0, q0, hargs, rfl, rfl, h0, r0⟩ := trodAll_cons hA
  obtain ⟨rfl, rfl, rfl⟩ := trodAll_nil r0
  obtain rfl : args = #[v0] := by cases args; simp_all
  obtain ⟨rfl, rfl⟩ := trodVars_none hV
  have k0 := h0
  have lt0 : ∀ x ∈ p0, x.block < W.heap.size := by obtain ⟨m, hm⟩ := k0; exact DataW.trod_lt m _ _ _ hm
  obtain ⟨A0, n0, c0, rfl, hx0⟩ := open_Bytes (hval 0 22 v0 rfl rfl) h0
  clear hA0 hval0
  refine (walk_FnSafeOutputs A0 n0 c0 W hx0).mono fun e W2 ⟨he, bel⟩ => ?_
  subst he
  exact ⟨_, rfl, _, _, _, [], _, [], hW2, trodAll_mk1 (shut_bool Try.underlying4 _), (trodAll_cons_mk (Below.trod laidOut_yes (by kernel_rfl) (of_decide_eq_true (by kernel_rfl)) k0 bel lt0) trodAll_mk0), rfl, bel.frame _, fun h => by cases h⟩
theorem facts_FnSafeOutputs : joinedFacts Try.prog 20 Try.f20 Rows.fnSafeOutputsSpec Rows.fnSafeOutputsRow = true := by
  unfold joinedFacts
  rw [mayEnter_yes, liftsFinal_no, make_cut]
  kernel_rfl
theorem wrap_FnSafeOutputs : Try.f20.isWrapper Try.prog Rows.fnSafeOutputsRow.wrapper Rows.fnSafeOutputsRow.mainSum := by
  unfold Func.isWrapper
  rw [if_neg (of_decide_eq_false (by kernel_rfl))]
  exact ⟨rfl, rfl⟩
theorem inst_FnSafeOutputs : Try.f20.isInstance Try.prog Rows.fnSafeOutputsRow.origin Rows.fnSafeOutputsRow.targs := of_decide_eq_true (by kernel_rfl)
theorem named_FnSafeOutputs : Try.prog.funcNamed Rows.fnSafeOutputsRow.func = some 20 := by kernel_rfl
theorem FnSafeOutputs_holds : Rows.FnSafeOutputsSaid :=
  OpenClaim.holds_of_wide 20 Try.f20 rfl rfl rfl rfl rfl rfl rfl ⟨rfl, rfl, rfl, rfl, rfl⟩ rfl rfl rfl rfl rfl named_FnSafeOutputs Try.func20 facts_FnSafeOutputs
    inst_FnSafeOutputs wrap_FnSafeOutputs
    (fun os started H enc _ => lifted_FnSafeOutputs os started H enc)
#print axioms FnSafeOutputs_holds
end Go.Proofs.Ytodnahpegecpiaa

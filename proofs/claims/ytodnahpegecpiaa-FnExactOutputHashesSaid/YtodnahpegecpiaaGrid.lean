/- Slices of slices of numbers: owned, read; the statements' helpers toIntSS, eqIntSS. -/
import Derived.Test.YtodnahpegecpiaaRaB
namespace Go.Proofs.Ytodnahpegecpiaa
set_option linter.unusedSimpArgs false
set_option linter.unusedVariables false
open Go.RowKit
/-- A slice of slices reads as lists of numbers. -/
def RdGr (w : World) (v : Value) (ll : List (List Int)) : Prop := ∃ us, us.length = ll.length ∧ RdV w v us ∧ ∀ j, j < ll.length → Rd w (us.getD j (.slice none 0 0)) (ll.getD j [])
theorem RdGr.below {w w' : World} {v : Value} {ll : List (List Int)} (h : RdGr w v ll) (hb : Below w.heap.size w w') : RdGr w' v ll := by
  obtain ⟨us, e, ⟨A, n, c, e2, hV⟩, hr⟩ := h
  exact ⟨us, e, ⟨A, n, c, e2, hV.below hb⟩, fun j hj => (hr j hj).below hb⟩
theorem RdGr.b {w w' : World} {v : Value} {ll : List (List Int)} (h : RdGr w v ll) (hb : Below w.heap.size w w' := by repeat (with_reducible (first | assumption | exact Below.refl _ _ | refine Below.alloc ?_ (by first | omega | (simp; done) | (simp; omega)) _ | refine Below.setCell ?_ (by first | omega | (simp; done) | (simp; omega)) _ | refine Below.drew ?_ | refine below_drewN ?_ _))) : RdGr w' v ll := h.below hb
/-- The owned slices of a slice of slices: the row of their values, then each. -/
def gridL (v : Value) (us : List Value) (ll : List (List Int)) : List (Value × Dat) := (v, .rows us) :: List.zip us (ll.map Dat.ints)
/-- A slice of slices of the call's own. -/
def OwnG (w : World) (lo hi : Nat) (v : Value) (ll : List (List Int)) : Prop := ∃ us : List Value, us.length = ll.length ∧ OwnL w lo hi (gridL v us ll)
section
variable {w w' : World} {lo hi lo2 hi2 : Nat} {v : Value} {ll : List (List Int)}
theorem OwnG.alloc (h : OwnG w lo hi v ll) (o : Obj) : OwnG (w.alloc o) lo hi v ll := by obtain ⟨us, e, h⟩ := h; exact ⟨us, e, h.alloc o⟩
theorem OwnG.drew (h : OwnG w lo hi v ll) : OwnG w.drew lo hi v ll := by obtain ⟨us, e, h⟩ := h; exact ⟨us, e, h.drew⟩
theorem OwnG.setBox {g i : Nat} {u : Value} (h : OwnG w lo hi v ll) (hd : g < lo ∨ hi ≤ g) : OwnG (w.setCell ⟨g, i, none⟩ u) lo hi v ll := by obtain ⟨us, e, h⟩ := h; exact ⟨us, e, h.setBox hd⟩
theorem OwnG.below (h : OwnG w lo hi v ll) (hb : Below w.heap.size w w') : OwnG w' lo hi v ll := by obtain ⟨us, e, h⟩ := h; exact ⟨us, e, h.below hb⟩
theorem OwnG.away (h : OwnG w lo2 hi2 v ll) (hc : Chg lo hi w w') (hd : hi ≤ lo2 ∨ hi2 ≤ lo) : OwnG w' lo2 hi2 v ll := by obtain ⟨us, e, h⟩ := h; exact ⟨us, e, h.away hc hd⟩
theorem OwnG.mono (h : OwnG w lo hi v ll) (h1 : lo2 ≤ lo) (h2 : hi ≤ hi2) (h3 : hi2 ≤ w.heap.size) : OwnG w lo2 hi2 v ll := by obtain ⟨us, e, h⟩ := h; exact ⟨us, e, h.mono h1 h2 h3⟩
theorem OwnG.keepBlock (h : OwnG w lo hi v ll) (hs : w.heap.size ≤ w'.heap.size) (hb : ∀ k, lo ≤ k → k < hi → w'.heap[k]? = w.heap[k]?) : OwnG w' lo hi v ll := by obtain ⟨us, e, h⟩ := h; exact ⟨us, e, h.keepBlock hs hb⟩
theorem zip_mem {us : List Value} {ll : List (List Int)} (e : us.length = ll.length) {j : Nat} (hj : j < ll.length) : (us.getD j (.slice none 0 0), Dat.ints (ll.getD j [])) ∈ List.zip us (ll.map Dat.ints) := by
  have h1 : j < (List.zip us (ll.map Dat.ints)).length := by simp; omega
  have h2 : (List.zip us (ll.map Dat.ints))[j] = (us.getD j (.slice none 0 0), Dat.ints (ll.getD j [])) := by
    simp [List.getD, show j < us.length by omega, hj]
  rw [← h2]
  exact List.getElem_mem h1
theorem OwnG.rd (h : OwnG w lo hi v ll) : RdGr w v ll := by
  obtain ⟨us, e, h⟩ := h
  have hr := h.rd
  exact ⟨us, e, hr (v, .rows us) (by simp [gridL]), fun j hj => hr _ (List.mem_cons_of_mem _ (zip_mem e hj))⟩
end
theorem RdGr.at {w : World} {A : Option Addr} {n c : Nat} {ll : List (List Int)} (h : RdGr w (.slice A n c) ll) {j : Nat} (hj : j < n) :
    ∃ g o u, A = some ⟨g, o, none⟩ ∧ g < w.heap.size ∧ w.cell? ⟨g, o + j, none⟩ = some u ∧ Rd w u (ll.getD j []) ∧ ll.length = n := by
  obtain ⟨us, e, ⟨A', n', c', e2, hV⟩, hr⟩ := h
  cases e2
  have hl := hV.1
  obtain ⟨g, o, e3, hc⟩ := hV.2 (by omega)
  obtain ⟨u, h1, h2⟩ := hc j hj
  refine ⟨g, o, u, e3, World.block_lt_of_cell? w _ h2, h2, ?_, by omega⟩
  have := hr j (by omega)
  rw [List.getD_eq_getElem?_getD, h1] at this
  exact this
theorem RdGr.len {w : World} {A : Option Addr} {n c : Nat} {ll : List (List Int)} (h : RdGr w (.slice A n c) ll) : ll.length = n := by
  obtain ⟨us, e, ⟨A', n', c', e2, hV⟩, hr⟩ := h
  cases e2
  have := hV.1; omega
theorem ints_info : (Try.prog.info? 25).map (fun i => (i.zero, i.size, i.bytes)) = some (some (.slice none 0 0), 1, 24) := by kernel_rfl
theorem row_cell1 {w : World} {base n cap g : Nat} {e : TypeId} {xs : List Value} (h : w.ownsRow base e 1 (.slice (some ⟨g, 0, none⟩) n cap) n xs) (j : Nat) (hj : j < n) : ∃ v, w.cell? ⟨g, j, none⟩ = some v := by
  have h1 := h.1
  exact ⟨xs[j]'(by omega), by rw [h.cellAt j (by omega)]; simp⟩
/-- 'make([][]int, n)'. -/
theorem make_rows {w : World} {ops : Array Oper} {rest : List Oper} {o : Oper} {a : Act} {Q : Exit → Act → World → Prop} (hgd : o.guard = none) (s x : Operand) (hop : o.op = Op.makeSlice 54 s x)
    (base n : Nat) (hs : a.eval s = .int .i64 n) (hx : a.eval x = .int .i64 n) (hn : n ≤ 1099511627776) (hbase : base ≤ w.heap.size)
    (h : ∀ w', OwnD w' base (.slice (some ⟨w.heap.size, 0, none⟩) n n) (.rows (List.replicate n (.slice none 0 0))) → w.grownBy w' none → wpList Try.prog ops Q rest (a.put o.dst (.slice (some ⟨w.heap.size, 0, none⟩) n n)) w') :
    wpList Try.prog ops Q (o :: rest) a w := by
  obtain ⟨i0, hi, hz0, hz1, hz2⟩ := info_parts ints_info
  refine wpList_make_full (P := Try.prog) w hgd s x 54 hop base 25 i0 (.slice none 0 0) 1 Try.underlying54 hi hz0 hz1 .i64 .i64 n n n hs hx rfl rfl (by rw [hz2]; omega) (by unfold maxLen; omega) hbase ?_
  intro w' h1 h2
  refine h w' ?_ h2
  unfold OwnD
  rw [Nat.mul_one, show (Value.slice none 0 0).cells = #[Value.slice none 0 0] from rfl, toList_madeCells_one] at h1
  show World.ownsRow _ _ _ _ _ (List.replicate n _).length _
  rw [List.length_replicate]
  exact h1
theorem zip_snoc {us : List Value} {ll : List (List Int)} {k : Nat} {v : Value} (hu : us.length = ll.length) (hk : k < ll.length) :
    List.zip (us.take k) ((ll.take k).map Dat.ints) ++ [(v, Dat.ints (ll.getD k []))] = List.zip ((us.set k v).take (k + 1)) ((ll.take (k + 1)).map Dat.ints) := by
  have e1 : (us.set k v).take (k + 1) = us.take k ++ [v] := by
    rw [List.take_succ_eq_append_getElem (by simp; omega), List.take_set_of_le (Nat.le_refl _)]; simp
  have e2 : ll.take (k + 1) = ll.take k ++ [ll.getD k []] := by
    rw [List.take_succ_eq_append_getElem hk]; simp [List.getD, hk]
  rw [e1, e2, List.map_append, List.zip_append (by simp; omega)]
  rfl
set_option maxRecDepth 100000 in
set_option maxHeartbeats 1000000 in
theorem toIntSS_any (A : Option Addr) (n c : Nat) (ll : List (List Int)) (w : World) (h : RdGr w (.slice A n c) ll) (hn : ll.length ≤ 1048576) (hm : ∀ j, (ll.getD j []).length ≤ 1048576) :
    Calls Try.prog 41 #[.slice A n c] w fun e w' => e = .returned (.slice (some ⟨w.heap.size, 0, none⟩) n n) ∧ OwnG w' w.heap.size w'.heap.size (.slice (some ⟨w.heap.size, 0, none⟩) n n) ll ∧ Below w.heap.size w w' := by
  have hl := Lib.hid h.len
  have hn' : n ≤ 1048576 := by rw [← hl.out]; exact hn
  go_enter Try.func41, Try.ntmps41
  go_wp2_with (at_make; go_must (refine make_rows rfl _ _ rfl w.heap.size n rfl rfl (by omega) (Nat.le_refl _) ?_); intro w1 hown hg1)
  have hb1 : Below w.heap.size w w1 := (Below.refl _ w).grown hg1 (Nat.le_refl _) (by intro k hk; cases hk)
  go_loopw [4] (fun i wr => ∃ (k : Nat) (us : List Value), k ≤ n ∧ i = .int .i64 k ∧ Hid (us.length = n) ∧ Hid (OwnL wr w.heap.size wr.heap.size ((.slice (some ⟨w.heap.size, 0, none⟩) n n, .rows us) :: List.zip (us.take k) ((ll.take k).map Dat.ints))) ∧ Below w.heap.size w wr) (fun i _ => n - (intOf i).toNat)
  case atStart => exact ⟨0, _, by omega, rfl, List.length_replicate, OwnL.one hown hb1.size, hb1⟩
  case round =>
    obtain ⟨k, us, hk, rfl, HU, R, B9⟩ := hrel
    obtain ⟨w9, hw9⟩ : ∃ x, x = wr := ⟨wr, rfl⟩
    subst hw9
    have R := R.out
    have z9 := B9.size
    by_cases hlt : k < n
    · obtain ⟨g, o, u, rfl, hg, hc, hr, _⟩ := h.at hlt
      have hck : w9.cell? ⟨g, o + k, none⟩ = some u := (B9.cell hg).trans hc
      go_wp2_with fail
      refine (toIntS_L (RdL.one (hr.below B9)) (hm k)).mono ?_
      rintro e w2 ⟨B, m, d, rfl, r2, b2⟩
      have z2 := b2.size
      have R2 := (R.below b2).then r2 (Nat.le_refl _)
      have ho : OwnD w2 w.heap.size (.slice (some ⟨w.heap.size, 0, none⟩) n n) (.rows us) := R2.get (p := (.slice (some ⟨w.heap.size, 0, none⟩) n n, .rows us)) (by simp)
      have ho' : w2.ownsRow w.heap.size 25 1 (.slice (some ⟨w.heap.size, 0, none⟩) n n) n us := by
        have h1 : w2.ownsRow w.heap.size 25 1 (.slice (some ⟨w.heap.size, 0, none⟩) n n) us.length us := ho
        rw [HU.out] at h1; exact h1
      obtain ⟨v0, hv0⟩ := row_cell1 ho' k (by omega)
      have hf := World.ownsRow.frozenAt ho' k
      go_wp2
      obtain ⟨s0, p0⟩ := ho'.stored k (.slice B m d)
      have hu := HU.out
      have hll := hl.out
      have R3 := OwnL.set (pre := []) (d' := .rows (us.set k (.slice B m d))) R2 (show OwnD _ _ _ _ by unfold OwnD; show World.ownsRow _ _ _ _ _ (us.set k _).length _; rw [List.length_set, hu]; exact s0) p0
      have hB2 : Below w.heap.size w w2 := B9.trans (b2.mono z9)
      go_roundw
      case rel => exact ⟨k + 1, us.set k (.slice B m d), by omega, by go_num, by show List.length _ = _; rw [List.length_set]; exact hu, by
          have e := zip_snoc (us := us) (ll := ll) (v := .slice B m d) (k := k) (by omega) (by omega)
          show OwnL _ _ _ _
          rw [← e]
          exact OwnL.mono R3 (Nat.le_refl _) (by simp) (by simp), hB2.grown p0 hB2.size (by intro j hj; cases hj; exact Nat.le_refl _)⟩
      case measure => simp [intOf]; omega
    · go_wp2
      go_ret
      have hu := HU.out
      have hll := hl.out
      have hkn : k = n := by omega
      subst hkn
      rw [List.take_of_length_le (by omega), List.take_of_length_le (by omega)] at R
      exact ⟨rfl, ⟨us, by omega, R⟩, B9⟩
theorem toIntSS_M {v : Value} {ll : List (List Int)} {w : World} (h : RdGr w v ll) (hn : ll.length ≤ 1048576) (hm : ∀ j, (ll.getD j []).length ≤ 1048576) :
    Calls Try.prog 41 #[v] w fun e w' => ∃ A n c, e = .returned (.slice A n c) ∧ OwnG w' w.heap.size w'.heap.size (.slice A n c) ll ∧ Below w.heap.size w w' := by
  obtain ⟨us, e, ⟨A, n, c, rfl, hV⟩, hr⟩ := id h
  refine (toIntSS_any A n c ll w h hn hm).mono ?_
  rintro e w' ⟨rfl, h1, h2⟩
  exact ⟨_, _, _, rfl, h1, h2⟩
end Go.Proofs.Ytodnahpegecpiaa

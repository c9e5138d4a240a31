/- Contracts of the statements' own helpers over slices of numbers: toIntS, eqIntS, markIntS, heldIntS. -/
import Derived.Test.YtodnahpegecpiaaOwn
import Derived.Test.YtodnahpegecpiaaDraw
namespace Go.Proofs.Ytodnahpegecpiaa
set_option linter.unusedSimpArgs false
set_option linter.unusedVariables false
open Go.RowKit
/-- 'make([]int, n)'. -/
theorem make_int {w : World} {ops : Array Oper} {rest : List Oper} {o : Oper} {a : Act} {Q : Exit → Act → World → Prop} (hgd : o.guard = none) (s x : Operand) (hop : o.op = Op.makeSlice 25 s x)
    (base n : Nat) (hs : a.eval s = .int .i64 n) (hx : a.eval x = .int .i64 n) (hn : n ≤ 1099511627776) (hbase : base ≤ w.heap.size)
    (h : ∀ w', Own w' base (.slice (some ⟨w.heap.size, 0, none⟩) n n) (List.replicate n 0) → w.grownBy w' none → wpList Try.prog ops Q rest (a.put o.dst (.slice (some ⟨w.heap.size, 0, none⟩) n n)) w') :
    wpList Try.prog ops Q (o :: rest) a w := by
  obtain ⟨i0, hi, hz0, hz1, hz2⟩ := info_parts int_info
  refine wpList_make_full (P := Try.prog) w hgd s x 25 hop base 3 i0 (.int .i64 0) 1 Try.underlying25 hi hz0 hz1 .i64 .i64 n n n hs hx rfl rfl (by rw [hz2]; omega) (by unfold maxLen; omega) hbase ?_
  intro w' h1 h2
  refine h w' ?_ h2
  unfold Own
  rw [Nat.mul_one, show (Value.int IntKind.i64 0).cells = #[Value.int IntKind.i64 0] from rfl, toList_madeCells_one] at h1
  rw [List.length_replicate, List.map_replicate]
  exact h1
section
variable {w w' : World} {base g n cap : Nat} {l : List Int}
/-- A store into an owned slice. -/
theorem Own.stored (h : Own w base (.slice (some ⟨g, 0, none⟩) n cap) l) (hl : l.length = n) (j : Nat) (x : Int) :
    Own (w.setCell ⟨g, j, none⟩ (.int .i64 x)) base (.slice (some ⟨g, 0, none⟩) n cap) (l.set j x) ∧ w.grownBy (w.setCell ⟨g, j, none⟩ (.int .i64 x)) (some g) := by
  subst hl
  have := World.ownsRow.stored h j (.int .i64 x)
  unfold Own
  rw [List.length_set, ← List.map_set] at *
  exact this
theorem Own.cellAt (h : Own w base (.slice (some ⟨g, 0, none⟩) n cap) l) (hl : l.length = n) {j : Nat} (hj : j < n) : w.cell? ⟨g, j, none⟩ = some (.int .i64 (nth l j)) := by
  subst hl
  rw [World.ownsRow.cellAt h j (by omega), nth_lt hj]
  simp [hj]
theorem Own.frozenAt (h : Own w base (.slice (some ⟨g, 0, none⟩) n cap) l) (hl : l.length = n) (j : Nat) : w.frozen? ⟨g, j, none⟩ = false := by
  subst hl
  exact World.ownsRow.frozenAt h j
end
theorem set_take {m l : List Int} {k : Nat} (hm : m.length = l.length) (hk : k < l.length) (h : m.take k = l.take k) : (m.set k (nth l k)).take (k + 1) = l.take (k + 1) := by
  rw [take_snoc l k hk, take_snoc _ k (by simp; omega), ← h]
  congr 1
  · rw [List.take_set_of_le (Nat.le_refl _)]
  · rw [nth_lt (by simp; omega)]; simp
set_option maxRecDepth 100000 in
theorem toIntS_any (A : Option Addr) (n c : Nat) (l : List Int) (w : World) (h : Ints w A n l) (hn : n ≤ 1048576) :
    Calls Try.prog 35 #[.slice A n c] w fun e w' => e = .returned (.slice (some ⟨w.heap.size, 0, none⟩) n n) ∧ Own w' w.heap.size (.slice (some ⟨w.heap.size, 0, none⟩) n n) l ∧ Below w.heap.size w w' := by
  have hl := Lib.hid h.len
  go_enter Try.func35, Try.ntmps35
  go_wp2_with (at_make; go_must (refine make_int rfl _ _ rfl w.heap.size n rfl rfl (by omega) (Nat.le_refl _) ?_); intro w1 hown hg1)
  have hb1 : Below w.heap.size w w1 := (Below.refl _ w).grown hg1 (Nat.le_refl _) (by intro k hk; cases hk)
  go_loopw [4] (fun i wr => ∃ (k : Nat) (m : List Int), k ≤ n ∧ i = .int .i64 k ∧ m.length = n ∧ Hid (m.take k = l.take k) ∧ Own wr w.heap.size (.slice (some ⟨w.heap.size, 0, none⟩) n n) m ∧ Below w.heap.size w wr) (fun i _ => n - (intOf i).toNat)
  case atStart => exact ⟨0, _, by omega, rfl, List.length_replicate, rfl, hown, hb1⟩
  case round =>
    obtain ⟨k, m, hk, rfl, hm, ht, hownr, hbr⟩ := hrel
    have HM := Lib.hid hm
    clear hm
    by_cases hlt : k < n
    · obtain ⟨g, o, rfl, hg, hc⟩ := h.block (by omega)
      have hck : wr.cell? ⟨g, o + k, none⟩ = some (.int .i64 (nth l k)) := (hbr.cell hg).trans (hc k hlt)
      have hf := hownr.frozenAt HM.out k
      have hd := hownr.cellAt HM.out hlt
      clear hc
      go_wp2
      have hs := hownr.stored HM.out k (nth l k)
      have hm2 := HM.out
      have hl2 := hl.out
      go_roundw
      case rel => exact ⟨k + 1, m.set k (nth l k), by omega, by go_num, by rw [List.length_set]; exact hm2, set_take (by omega) (by omega) ht.out, hs.1, hbr.grown hs.2 hbr.size (by intro j hj; cases hj; exact Nat.le_refl _)⟩
      case measure => simp [intOf]; omega
    · go_wp2
      go_ret
      have hm2 := HM.out
      have hl2 := hl.out
      have ht2 := ht.out
      rw [List.take_of_length_le (by omega), List.take_of_length_le (by omega)] at ht2
      subst ht2
      exact ⟨rfl, hownr, hbr⟩
set_option maxRecDepth 100000 in
theorem eqIntS_any (A B : Option Addr) (n c d : Nat) (l : List Int) (w : World) (h : Ints w A n l) (h2 : Ints w B n l) (hn : n ≤ 1048576) :
    Calls Try.prog 37 #[.slice A n c, .slice B n d] w fun e w' => e = .returned (.bool true) ∧ Below w.heap.size w w' := by
  go_enter Try.func37, Try.ntmps37
  go_wp2_with fail
  go_loopw [5] (fun i wr => ∃ k : Nat, k ≤ n ∧ i = .int .i64 k ∧ Below w.heap.size w wr) (fun i _ => n - (intOf i).toNat)
  case atStart => exact ⟨0, by omega, rfl, Below.refl _ _⟩
  case round =>
    obtain ⟨k, hk, rfl, hbr⟩ := hrel
    by_cases hlt : k < n
    · obtain ⟨g, o, rfl, hg, hc⟩ := h.block (by omega)
      obtain ⟨g2, o2, rfl, hg2, hc2⟩ := h2.block (by omega)
      have hck : wr.cell? ⟨g, o + k, none⟩ = some (.int .i64 (nth l k)) := (hbr.cell hg).trans (hc k hlt)
      have hck2 : wr.cell? ⟨g2, o2 + k, none⟩ = some (.int .i64 (nth l k)) := (hbr.cell hg2).trans (hc2 k hlt)
      clear hc hc2
      go_wp2_with fail
      go_quiet (fail)
      go_wp2_with fail
      go_roundw
      case rel => exact ⟨k + 1, by omega, by go_num, below_drewN hbr _⟩
      case measure => simp [intOf]; omega
    · go_wp2
      go_ret
      exact ⟨rfl, hbr⟩
/-- n numbers that follow on one another, from k on. -/
def seqL (k n : Nat) : List Int := (List.range n).map fun j => ((k + j : Nat) : Int)
theorem seqL_len (k n : Nat) : (seqL k n).length = n := by simp [seqL]
theorem seqL_nth {k n j : Nat} (h : j < n) : nth (seqL k n) j = ((k + j : Nat) : Int) := by rw [nth_lt (by simp [seqL, h])]; simp [seqL]
theorem seq_take {m : List Int} {k k0 n : Nat} (hm : m.length = n) (hk : k < n) (h : m.take k = (seqL k0 n).take k) : (m.set k ((k0 + k : Nat) : Int)).take (k + 1) = (seqL k0 n).take (k + 1) := by
  have := set_take (l := seqL k0 n) (by rw [seqL_len]; exact hm) (by rw [seqL_len]; exact hk) h
  rwa [seqL_nth hk] at this
set_option maxRecDepth 100000 in
theorem markIntS_any (base k0 : Nat) (v : Value) (l : List Int) (w : World) (h : Own w base v l) (hn : l.length ≤ 1048576) (hk0 : k0 ≤ 1099511627776) :
    Calls Try.prog 45 #[v, .int .i64 k0] w fun e w' => e = .returned (.int .i64 ((k0 + l.length : Nat) : Int)) ∧ Own w' base v (seqL k0 l.length) ∧ w.grownBy w' v.ownBlock := by
  obtain ⟨n, hl⟩ : ∃ n, l.length = n := ⟨_, rfl⟩
  rcases Joins.ownsRow_forms h with ⟨rfl, h0⟩ | ⟨g, cap, rfl⟩
  · have hl0 : l = [] := List.eq_nil_of_length_eq_zero h0
    subst hl0
    clear h0 hl
    go_enter Try.func45, Try.ntmps45
    go_wp2_with fail
    refine wp_loop_rounds 1 ?_
    rw [rounds_succ]
    go_wp2
    go_ret
    exact ⟨rfl, h, World.grownBy.refl _ _⟩
  · have HL := Lib.hid hl
    rw [hl] at hn ⊢
    clear hl
    go_enter Try.func45, Try.ntmps45
    go_wp2_with fail
    go_loopw [1, 5] (fun q i wr => ∃ (k : Nat) (m : List Int), k ≤ n ∧ i = .int .i64 k ∧ q = .int .i64 ((k0 + k : Nat) : Int) ∧ Hid (m.length = n) ∧ Hid (m.take k = (seqL k0 n).take k) ∧ Own wr base (.slice (some ⟨g, 0, none⟩) n cap) m ∧ Only g w wr) (fun _ i _ => n - (intOf i).toNat)
    case atStart => exact ⟨0, l, by omega, rfl, rfl, HL.out, rfl, by rw [← HL.out]; exact h, World.grownBy.refl _ _⟩
    case round =>
      obtain ⟨k, m, hk, rfl, rfl, hm, ht, hownr, hor⟩ := hrel
      by_cases hlt : k < n
      · have hf := hownr.frozenAt hm.out k
        have hd := hownr.cellAt hm.out hlt
        go_wp2
        have hs := hownr.stored hm.out k ((k0 + k : Nat) : Int)
        have hm2 := hm.out
        go_roundw
        case rel => exact ⟨k + 1, m.set k ((k0 + k : Nat) : Int), by omega, by go_num, by go_num, by show (m.set k _).length = n; rw [List.length_set]; exact hm2, seq_take hm2 hlt ht.out, hs.1, hor.trans hs.2⟩
        case measure => simp [intOf]; omega
      · go_wp2
        go_ret
        have hm2 := hm.out
        have ht2 := ht.out
        rw [List.take_of_length_le (by omega), List.take_of_length_le (by rw [seqL_len]; omega)] at ht2
        subst ht2
        exact ⟨ret_int (by congr 2; omega), hownr, hor⟩
set_option maxRecDepth 100000 in
theorem heldIntS_any (k0 : Nat) (A : Option Addr) (n c : Nat) (w : World) (h : Ints w A n (seqL k0 n)) (hn : n ≤ 1048576) (hk0 : k0 ≤ 1099511627776) :
    Calls Try.prog 46 #[.slice A n c, .int .i64 k0] w fun e w' => e = .returned (.int .i64 ((k0 + n : Nat) : Int)) ∧ w = w' := by
  go_enter Try.func46, Try.ntmps46
  go_wp2_with fail
  go_loop [1, 5] (fun q i => ∃ k : Nat, k ≤ n ∧ i = .int .i64 k ∧ q = .int .i64 ((k0 + k : Nat) : Int)) (fun _ i => n - (intOf i).toNat)
  case atStart => exact ⟨0, by omega, rfl, rfl⟩
  case round =>
    obtain ⟨k, hk, rfl, rfl⟩ := hrel
    by_cases hlt : k < n
    · obtain ⟨g, o, rfl, hg, hc⟩ := h.block (by omega)
      have hck : w.cell? ⟨g, o + k, none⟩ = some (.int .i64 ((k0 + k : Nat) : Int)) := by rw [hc k hlt, seqL_nth hlt]
      clear hc
      go_wp2
      go_round
      case rel => exact ⟨k + 1, by omega, by go_num, by go_num⟩
      case measure => simp [intOf]; omega
    · go_wp2
      go_ret
      exact ⟨ret_int (by congr 2; omega), rfl⟩
end Go.Proofs.Ytodnahpegecpiaa

/- The statements' helpers over slices of gates: toGateS, eqGateS, markGateS, szGateS. -/
import Derived.Test.YtodnahpegecpiaaGate1
namespace Go.Proofs.Ytodnahpegecpiaa
set_option linter.unusedSimpArgs false
set_option linter.unusedVariables false
open Go.RowKit
theorem gate_info : (Try.prog.info? 74).map (fun i => (i.zero, i.size, i.bytes)) = some (some (.agg #[.int .i64 0, .int .i64 0, .int .i64 0]), 3, 24) := by kernel_rfl
/-- The gates of a row, one after the other, as a walk reads them. -/
theorem Gates.at {w : World} {A : Option Addr} {n : Nat} {l : List (Int × Int × Int)} (h : Gates w A n l) {j : Nat} (hj : j < n) :
    ∃ g o, A = some ⟨g, o, none⟩ ∧ g < w.heap.size ∧ w.cell? ⟨g, o + j * 3, none⟩ = some (.int .i64 (l.getD j (0, 0, 0)).1) ∧ w.cell? ⟨g, o + j * 3 + 1, none⟩ = some (.int .i64 (l.getD j (0, 0, 0)).2.1) ∧ w.cell? ⟨g, o + j * 3 + 2, none⟩ = some (.int .i64 (l.getD j (0, 0, 0)).2.2) := by
  obtain ⟨g, o, e, hc⟩ := h.2 (by omega)
  obtain ⟨k, a, b, h1, h2, h3, h4⟩ := hc j hj
  have e2 : l.getD j (0, 0, 0) = (k, a, b) := by rw [List.getD_eq_getElem?_getD, h1]; rfl
  rw [show 3 * j = j * 3 by omega] at h2 h3 h4
  refine ⟨g, o, e, World.block_lt_of_cell? w _ h2, ?_, ?_, ?_⟩ <;> rw [e2] <;> assumption
theorem make_gate {w : World} {ops : Array Oper} {rest : List Oper} {o : Oper} {a : Act} {Q : Exit → Act → World → Prop} (hgd : o.guard = none) (s x : Operand) (hop : o.op = Op.makeSlice 24 s x)
    (base n : Nat) (hs : a.eval s = .int .i64 n) (hx : a.eval x = .int .i64 n) (hn : n ≤ 1099511627776) (hbase : base ≤ w.heap.size)
    (h : ∀ w' m, w'.ownsRow base 74 3 (.slice (some ⟨w.heap.size, 0, none⟩) n n) n m → w.grownBy w' none → wpList Try.prog ops Q rest (a.put o.dst (.slice (some ⟨w.heap.size, 0, none⟩) n n)) w') :
    wpList Try.prog ops Q (o :: rest) a w := by
  obtain ⟨i0, hi, hz0, hz1, hz2⟩ := info_parts gate_info
  refine wpList_make_full (P := Try.prog) w hgd s x 24 hop base 74 i0 (.agg #[.int .i64 0, .int .i64 0, .int .i64 0]) 3 Try.underlying24 hi hz0 hz1 .i64 .i64 n n n hs hx rfl rfl (by rw [hz2]; omega) (by unfold maxLen; omega) hbase ?_
  intro w' h1 h2
  exact h w' _ h1 h2
theorem setv_take {m L : List Value} {j : Nat} {u : Value} (hm : m.length = L.length) (hu : L[j]? = some u) (h : m.take j = L.take j) : (m.set j u).take (j + 1) = L.take (j + 1) := by
  obtain ⟨hj, hu⟩ := List.getElem?_eq_some_iff.1 hu
  rw [List.take_succ_eq_append_getElem (by simp; omega), List.take_succ_eq_append_getElem hj, ← h]
  congr 1
  · rw [List.take_set_of_le (Nat.le_refl _)]
  · simp [hu]
theorem set3_take {m : List Value} {l : List (Int × Int × Int)} {k : Nat} (hm : m.length = l.length * 3) (hk : k < l.length) (h : m.take (k * 3) = (gcells l).take (k * 3)) :
    (((m.set (k * 3) (.int .i64 (l.getD k (0, 0, 0)).1)).set (k * 3 + 1) (.int .i64 (l.getD k (0, 0, 0)).2.1)).set (k * 3 + 2) (.int .i64 (l.getD k (0, 0, 0)).2.2)).take ((k + 1) * 3) = (gcells l).take ((k + 1) * 3) := by
  obtain ⟨h1, h2, h3⟩ := gcells_get hk
  have hl := gcells_len l
  have e : l.getD k (0, 0, 0) = l[k] := by simp [List.getD, hk]
  rw [e, show (k + 1) * 3 = k * 3 + 2 + 1 by omega]
  rw [show 3 * k = k * 3 by omega] at h1 h2 h3
  exact setv_take (by simp; omega) h3 (setv_take (by simp; omega) h2 (setv_take (by omega) h1 h))
theorem row_keep {w w' : World} {base size n : Nat} {e : TypeId} {v : Value} {xs : List Value} (h : w.ownsRow base e size v n xs) (hb : ∀ k, v.ownBlock = some k → w'.heap[k]? = w.heap[k]?) : w'.ownsRow base e size v n xs := by
  refine ⟨h.1, ?_⟩
  rcases h.2 with hn | ⟨g, cap, cur, rfl, hb', hg, rest⟩
  · exact .inl hn
  · exact .inr ⟨g, cap, cur, rfl, hb', (hb g rfl).trans hg, rest⟩
theorem row_below {w w' : World} {base size n : Nat} {e : TypeId} {v : Value} {xs : List Value} (h : w.ownsRow base e size v n xs) (hb : Below w.heap.size w w') : w'.ownsRow base e size v n xs := row_keep h fun k hk => hb.block k (h.lt k hk).2
theorem row_cell {w : World} {base size n cap g : Nat} {e : TypeId} {xs : List Value} (h : w.ownsRow base e size (.slice (some ⟨g, 0, none⟩) n cap) n xs) (j : Nat) (hj : j < n * size) : ∃ v, w.cell? ⟨g, j, none⟩ = some v := by
  have h1 := h.1
  exact ⟨xs[j], by rw [h.cellAt j hj]; simp⟩
set_option maxRecDepth 100000 in
set_option maxHeartbeats 1000000 in
theorem toGateS_any (A : Option Addr) (n c : Nat) (l : List (Int × Int × Int)) (w : World) (h : Gates w A n l) (hn : n ≤ 1048576) :
    Calls Try.prog 106 #[.slice A n c] w fun e w' => e = .returned (.slice (some ⟨w.heap.size, 0, none⟩) n n) ∧ OwnD w' w.heap.size (.slice (some ⟨w.heap.size, 0, none⟩) n n) (.gates l) ∧ Below w.heap.size w w' := by
  have hl := Lib.hid h.1
  go_enter Try.func106, Try.ntmps106
  go_wp2_with (at_make; go_must (refine make_gate rfl _ _ rfl w.heap.size n rfl rfl (by omega) (Nat.le_refl _) ?_); intro w1 m0 hown hg1)
  have hb1 : Below w.heap.size w w1 := (Below.refl _ w).grown hg1 (Nat.le_refl _) (by intro k hk; cases hk)
  go_loopw [4] (fun i wr => ∃ (k : Nat) (m : List Value), k ≤ n ∧ i = .int .i64 k ∧ Hid (m.length = n * 3) ∧ Hid (m.take (k * 3) = (gcells l).take (k * 3)) ∧ Hid (wr.ownsRow w.heap.size 74 3 (.slice (some ⟨w.heap.size, 0, none⟩) n n) n m) ∧ Below w.heap.size w wr) (fun i _ => n - (intOf i).toNat)
  case atStart => exact ⟨0, _, by omega, rfl, hown.1, rfl, hown, hb1⟩
  case round =>
    obtain ⟨k, m, hk, rfl, HM, ht, hownr, hbr⟩ := hrel
    obtain ⟨w3, hw3⟩ : ∃ x, x = wr := ⟨wr, rfl⟩
    subst hw3
    by_cases hlt : k < n
    · obtain ⟨g, o, rfl, hg, e0, e1, e2⟩ := h.at hlt
      replace e0 := (hbr.cell hg).trans e0
      replace e1 := (hbr.cell hg).trans e1
      replace e2 := (hbr.cell hg).trans e2
      generalize hgt : l.getD k (0, 0, 0) = gt at *
      obtain ⟨ki, ai, bi⟩ := gt
      have hgt' := Lib.hid hgt
      clear hgt
      dsimp only at e0 e1 e2
      go_wp2_with fail
      refine (toGate_L _ _ _).mono ?_
      rintro e w4 ⟨rfl, b4⟩
      have hz4 := b4.size
      have hown4 := row_below hownr.out b4
      obtain ⟨v0, hv0⟩ := row_cell hown4 (k * 3) (by omega)
      obtain ⟨v1, hv1⟩ := row_cell hown4 (k * 3 + 1) (by omega)
      obtain ⟨v2, hv2⟩ := row_cell hown4 (k * 3 + 2) (by omega)
      have hf0 := World.ownsRow.frozenAt hown4 (k * 3)
      have hf1 := World.ownsRow.frozenAt hown4 (k * 3 + 1)
      have hf2 := World.ownsRow.frozenAt hown4 (k * 3 + 2)
      go_wp2
      obtain ⟨s0, p0⟩ := hown4.stored (k * 3) (.int .i64 ki)
      obtain ⟨s1, p1⟩ := s0.stored (k * 3 + 1) (.int .i64 ai)
      obtain ⟨s2, p2⟩ := s1.stored (k * 3 + 2) (.int .i64 bi)
      have hm2 := HM.out
      have hl2 := hl.out
      have ht2 := set3_take (m := m) (l := l) (k := k) (by omega) (by omega) ht.out
      rw [hgt'.out] at ht2
      have hB4 : Below w.heap.size w w4 := hbr.trans (b4.mono hbr.size)
      have hz := hB4.size
      go_roundw
      case rel => exact ⟨k + 1, _, by omega, by go_num, by show List.length _ = _; simp; omega, ht2, s2, ((hB4.grown p0 hz (by intro j hj; cases hj; exact Nat.le_refl _)).grown p1 (by simp; omega) (by intro j hj; cases hj; exact Nat.le_refl _)).grown p2 (by simp; omega) (by intro j hj; cases hj; exact Nat.le_refl _)⟩
      case measure => simp [intOf]; omega
    · go_wp2
      go_ret
      have hm2 := HM.out
      have hl2 := hl.out
      have hg2 := gcells_len l
      have ht2 := ht.out
      rw [List.take_of_length_le (by omega), List.take_of_length_le (by omega)] at ht2
      subst ht2
      refine ⟨rfl, ?_, hbr⟩
      have ho := hownr.out
      unfold OwnD
      show World.ownsRow _ _ _ _ _ l.length _
      rw [hl2]
      exact ho
theorem toGateS_L {v : Value} {l : List (Int × Int × Int)} {w : World} (h : RdL w [(v, .gates l)]) (hn : l.length ≤ 1048576) :
    Calls Try.prog 106 #[v] w fun e w' => ∃ A n c, e = .returned (.slice A n c) ∧ OwnL w' w.heap.size w'.heap.size [(.slice A n c, .gates l)] ∧ Below w.heap.size w w' := by
  obtain ⟨A, n, c, rfl, hG⟩ : RdG w v l := h (v, .gates l) (by simp)
  refine (toGateS_any A n c l w hG (by rw [← hG.1]; exact hn)).mono ?_
  rintro e w' ⟨rfl, h1, h2⟩
  exact ⟨_, _, _, rfl, OwnL.one h1 h2.size, h2⟩
/-- Gates among the arguments, of whatever number. -/
def RdG0 (w : World) (v : Value) (l : List (Int × Int × Int)) : Prop := ∃ A n c, v = .slice A n c ∧ n ≤ maxLen ∧ Gates w A n l
theorem RdG0.rd {w : World} {v : Value} {l : List (Int × Int × Int)} (h : RdG0 w v l) : RdG w v l := by
  obtain ⟨A, n, c, e, _, hI⟩ := h; exact ⟨A, n, c, e, hI⟩
theorem RdG0.below {w w' : World} {v : Value} {l : List (Int × Int × Int)} (h : RdG0 w v l) (hb : Below w.heap.size w w') : RdG0 w' v l := by
  obtain ⟨A, n, c, e, hm, hI⟩ := h; exact ⟨A, n, c, e, hm, hI.below hb⟩
theorem RdG.below {w w' : World} {v : Value} {l : List (Int × Int × Int)} (h : RdG w v l) (hb : Below w.heap.size w w') : RdG w' v l := by
  obtain ⟨A, n, c, e, hI⟩ := h; exact ⟨A, n, c, e, hI.below hb⟩
theorem RdG0.b {w w' : World} {v : Value} {l : List (Int × Int × Int)} (h : RdG0 w v l) (hb : Below w.heap.size w w' := by repeat (with_reducible (first | assumption | exact Below.refl _ _ | refine Below.alloc ?_ (by first | omega | (simp; done) | (simp; omega)) _ | refine Below.setCell ?_ (by first | omega | (simp; done) | (simp; omega)) _ | refine Below.drew ?_ | refine below_drewN ?_ _))) : RdG0 w' v l := h.below hb
theorem RdG.b {w w' : World} {v : Value} {l : List (Int × Int × Int)} (h : RdG w v l) (hb : Below w.heap.size w w' := by repeat (with_reducible (first | assumption | exact Below.refl _ _ | refine Below.alloc ?_ (by first | omega | (simp; done) | (simp; omega)) _ | refine Below.setCell ?_ (by first | omega | (simp; done) | (simp; omega)) _ | refine Below.drew ?_ | refine below_drewN ?_ _))) : RdG w' v l := h.below hb
theorem szGateS_yes {v : Value} {l : List (Int × Int × Int)} {w : World} (h : RdG0 w v l) (left : Nat) (K : Int) (hK : K = left) (hleft : left ≤ 1048576) (hle : l.length ≤ left) :
    Calls Try.prog 105 #[v, .int .i64 K] w fun e w' => e = .returned (.int .i64 ((left - l.length : Nat) : Int)) ∧ Below w.heap.size w w' := by
  obtain ⟨A, n, c, rfl, _, hI⟩ := h
  have hl := hI.1
  rw [hl] at hle ⊢
  subst hK
  have hm : (0 : Int) ≤ (left : Int) - (n : Int) := by omega
  go_enter Try.func105, Try.ntmps105
  go_wp2
  go_ret
  exact ⟨ret_int (by omega), Below.refl _ _⟩
theorem szGateS_no {v : Value} {l : List (Int × Int × Int)} {w : World} (h : RdG0 w v l) (left : Nat) (K : Int) (hK : K = left) (hleft : left ≤ 1048576) (hle : ¬ l.length ≤ left) :
    Calls Try.prog 105 #[v, .int .i64 K] w fun e w' => e = .returned (.int .i64 (-1)) ∧ Below w.heap.size w w' := by
  obtain ⟨A, n, c, rfl, hmax, hI⟩ := h
  have hl := hI.1
  rw [hl] at hle
  unfold maxLen at hmax
  subst hK
  have hm : (left : Int) - (n : Int) < 0 := by omega
  have hw : wrap64 ((left : Int) - (n : Int)) = (left : Int) - (n : Int) := by unfold wrap64; omega
  go_enter Try.func105, Try.ntmps105
  go_wp2
  go_ret
  exact ⟨rfl, Below.refl _ _⟩
theorem seqG_get {k n j : Nat} (h : j < n) : (seqG k n).getD j (0, 0, 0) = (((k + 3 * j : Nat) : Int), ((k + 3 * j + 1 : Nat) : Int), ((k + 3 * j + 2 : Nat) : Int)) := by
  simp [seqG, List.getD, h]
set_option maxRecDepth 100000 in
set_option maxHeartbeats 1000000 in
theorem markGateS_any (base k0 : Nat) (v : Value) (l : List (Int × Int × Int)) (w : World) (h : OwnD w base v (.gates l)) (hn : l.length ≤ 1048576) (hk0 : k0 ≤ 1099511627776) :
    Calls Try.prog 108 #[v, .int .i64 k0] w fun e w' => e = .returned (.int .i64 ((k0 + 3 * l.length : Nat) : Int)) ∧ OwnD w' base v (.gates (seqG k0 l.length)) ∧ w.grownBy w' v.ownBlock := by
  obtain ⟨n, hl⟩ : ∃ n, l.length = n := ⟨_, rfl⟩
  rcases Joins.ownsRow_forms h with ⟨rfl, h0⟩ | ⟨g, cap, rfl⟩
  · have hl0 : l = [] := List.eq_nil_of_length_eq_zero h0
    subst hl0
    clear h0 hl
    go_enter Try.func108, Try.ntmps108
    go_wp2_with fail
    refine wp_loop_rounds 1 ?_
    rw [rounds_succ]
    go_wp2
    go_ret
    exact ⟨rfl, h, World.grownBy.refl _ _⟩
  · have HL := Lib.hid hl
    have hrow : w.ownsRow base 74 3 (.slice (some ⟨g, 0, none⟩) n cap) n (gcells l) := by
      have h' : w.ownsRow base 74 3 (.slice (some ⟨g, 0, none⟩) l.length cap) l.length (gcells l) := h
      rw [hl] at h'; exact h'
    have hgl := gcells_len l
    rw [show Dat.len (.gates l) = n from hl]
    rw [hl] at hn hgl ⊢
    clear hl h
    go_enter Try.func108, Try.ntmps108
    go_wp2_with fail
    go_loopw [1, 5] (fun q i wr => ∃ (k : Nat) (m : List Value), k ≤ n ∧ i = .int .i64 k ∧ q = .int .i64 ((k0 + 3 * k : Nat) : Int) ∧ Hid (m.length = n * 3) ∧ Hid (m.take (k * 3) = (gcells (seqG k0 n)).take (k * 3)) ∧ Hid (wr.ownsRow base 74 3 (.slice (some ⟨g, 0, none⟩) n cap) n m) ∧ Only g w wr) (fun _ i _ => n - (intOf i).toNat)
    case atStart => exact ⟨0, gcells l, by omega, rfl, rfl, hgl, rfl, hrow, World.grownBy.refl _ _⟩
    case round =>
      obtain ⟨k, m, hk, rfl, rfl, HM, ht, hownr, hor⟩ := hrel
      obtain ⟨w3, hw3⟩ : ∃ x, x = wr := ⟨wr, rfl⟩
      subst hw3
      by_cases hlt : k < n
      · have hown4 := hownr.out
        obtain ⟨v0, hv0⟩ := row_cell hown4 (k * 3) (by omega)
        obtain ⟨v1, hv1⟩ := row_cell hown4 (k * 3 + 1) (by omega)
        obtain ⟨v2, hv2⟩ := row_cell hown4 (k * 3 + 2) (by omega)
        have hf0 := World.ownsRow.frozenAt hown4 (k * 3)
        have hf1 := World.ownsRow.frozenAt hown4 (k * 3 + 1)
        have hf2 := World.ownsRow.frozenAt hown4 (k * 3 + 2)
        go_wp2
        have e0 : (((k0 + 3 * k : Nat) : Int)) + 1 = ((k0 + 3 * k + 1 : Nat) : Int) := by omega
        have e1 : (((k0 + 3 * k : Nat) : Int)) + 1 + 1 = ((k0 + 3 * k + 2 : Nat) : Int) := by omega
        obtain ⟨s0, p0⟩ := hown4.stored (k * 3) (.int .i64 ((k0 + 3 * k : Nat) : Int))
        obtain ⟨s1, p1⟩ := s0.stored (k * 3 + 1) (.int .i64 ((k0 + 3 * k + 1 : Nat) : Int))
        obtain ⟨s2, p2⟩ := s1.stored (k * 3 + 2) (.int .i64 ((k0 + 3 * k + 2 : Nat) : Int))
        have hm2 := HM.out
        have hsl := seqG_len k0 n
        have ht2 := set3_take (m := m) (l := seqG k0 n) (k := k) (by omega) (by omega) ht.out
        rw [seqG_get hlt] at ht2
        go_roundw
        case rel => exact ⟨k + 1, _, by omega, by go_num, by go_num, by show List.length _ = _; simp; omega, ht2, by (first | exact s2 | (rw [← e0, ← e1] at s2; exact s2) | (rw [e1, e0]; exact s2) | (show World.ownsRow _ _ _ _ _ _ _; simp only [e0, e1] at *; trace_state; exact s2)), by (first | exact ((hor.trans p0).trans p1).trans p2 | (rw [e1, e0]; exact ((hor.trans p0).trans p1).trans p2))⟩
        case measure => simp [intOf]; omega
      · go_wp2
        go_ret
        have hm2 := HM.out
        have hsl := seqG_len k0 n
        have hg2 := gcells_len (seqG k0 n)
        have ht2 := ht.out
        rw [List.take_of_length_le (by omega), List.take_of_length_le (by omega)] at ht2
        subst ht2
        refine ⟨ret_int (by congr 2; omega), ?_, hor⟩
        have ho := hownr.out
        unfold OwnD
        show World.ownsRow _ _ _ _ _ (seqG k0 n).length _
        rw [hsl]
        exact ho
theorem markGateS_L {lo hi : Nat} {pre post : List (Value × Dat)} {v : Value} {l : List (Int × Int × Int)} {w : World} (k0 : Nat) (K : Int) (h : OwnL w lo hi (pre ++ (v, .gates l) :: post)) (hK : K = k0) (hk : k0 ≤ 1000000000000) (hn : l.length ≤ 1048576) :
    Calls Try.prog 108 #[v, .int .i64 K] w fun e w' => e = .returned (.int .i64 ((k0 + 3 * l.length : Nat) : Int)) ∧ OwnL w' lo hi (pre ++ (v, .gates (seqG k0 l.length)) :: post) ∧ Chg lo hi w w' := by
  subst hK
  have ho : OwnD w lo v (.gates l) := h.get (p := (v, .gates l)) (by simp)
  refine (markGateS_any lo k0 v l w ho hn (by omega)).mono ?_
  rintro e w' ⟨rfl, h1, h2⟩
  exact ⟨rfl, h.set h1 h2, h.chg h2⟩
end Go.Proofs.Ytodnahpegecpiaa

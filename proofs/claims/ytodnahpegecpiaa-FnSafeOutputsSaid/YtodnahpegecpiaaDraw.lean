/- Contracts of the generators' cursor: l01New, l01Byte, l01Below. What is drawn is left open but for its bounds. -/
import Derived.Test.YtodnahpegecpiaaBits
import Derived.Lib.SmallJoins
namespace Go.Proofs.Ytodnahpegecpiaa
set_option linter.unusedSimpArgs false
set_option linter.unusedVariables false
open Go.RowKit

/-- w' is w but for block g (and blocks that are new). -/
abbrev Only (g : Nat) (w w' : World) : Prop := w.grownBy w' (some g)
theorem Only.refl (g : Nat) (w : World) : Only g w w := ⟨rfl, rfl, rfl, Nat.le_refl _, fun _ _ _ => rfl⟩
theorem Only.trans {g : Nat} {a b c : World} (h : Only g a b) (k : Only g b c) : Only g a c :=
  ⟨k.os.trans h.os, k.tape.trans h.tape, k.output.trans h.output, Nat.le_trans h.size k.size, fun i hi hne => (k.block i (Nat.lt_of_lt_of_le hi h.size) hne).trans (h.block i hi hne)⟩
theorem Only.setCell (g i : Nat) (w : World) (v : Value) : Only g w (w.setCell ⟨g, i, none⟩ v) :=
  ⟨rfl, rfl, rfl, by simp [World.setCell], fun k _ hne => Below.heap_setCell _ _ _ _ (fun e => hne (by rw [e]))⟩
theorem Only.drewN (g n : Nat) (w : World) : Only g w (w.drewN n) := ⟨rfl, rfl, rfl, Nat.le_refl _, fun _ _ _ => rfl⟩
theorem Only.below {g B : Nat} {a w w' : World} (h : Below B a w) (hg : B ≤ g) (hB : B ≤ w.heap.size) (k : Only g w w') : Below B a w' :=
  h.grown k hB (by intro k hk; cases hk; exact hg)
theorem Only.of_below {g : Nat} {w w' : World} (h : Below w.heap.size w w') : Only g w w' :=
  ⟨h.os, h.tape, h.output, h.size, fun k hk _ => h.block k hk⟩

/-- A slice of bytes, at address A (nil or not), of n elements. -/
def Bts (w : World) (A : Option Addr) (n : Nat) : Prop :=
  n ≤ 1048576 ∧ (0 < n → ∃ g o, A = some ⟨g, o, none⟩ ∧ ∀ j, j < n → ∃ v : Int, 0 ≤ v ∧ v ≤ 255 ∧ w.cell? ⟨g, o + j, none⟩ = some (.int .u8 v))
/-- A cursor in block g over the bytes at A. -/
def Cur (w : World) (g : Nat) (A : Option Addr) (n c : Nat) : Prop :=
  ∃ (i : Nat) (h : Int), i ≤ n ∧ w.heap[g]? = some (.cells #[.slice A n c, .int .i64 i, .int .i64 h] 116 (0, 0)) ∧ Bts w A n ∧ (0 < n → ∀ a, A = some a → a.block ≠ g)
theorem Bts.keep {w w' : World} {A : Option Addr} {n : Nat} (h : Bts w A n) (hk : 0 < n → ∀ a, A = some a → a.block < w.heap.size → w'.heap[a.block]? = w.heap[a.block]?) : Bts w' A n := by
  refine ⟨h.1, fun hn => ?_⟩
  obtain ⟨g, o, e, hc⟩ := h.2 hn
  refine ⟨g, o, e, fun j hj => ?_⟩
  obtain ⟨v, h1, h2, h3⟩ := hc j hj
  have hlt : g < w.heap.size := World.block_lt_of_cell? w _ h3
  exact ⟨v, h1, h2, (World.cell?_of_block (w := w) (a := ⟨g, o + j, none⟩) (by have := hk hn _ e hlt; exact this)).trans h3⟩
theorem Cur.lt {w : World} {g : Nat} {A : Option Addr} {n c : Nat} (h : Cur w g A n c) : g < w.heap.size := by
  obtain ⟨i, h, _, hb, _⟩ := h
  exact lt_of_block hb
/-- A cursor stays where its block and the bytes' block are left alone. -/
theorem Cur.keep {w w' : World} {g : Nat} {A : Option Addr} {n c : Nat} (h : Cur w g A n c) (hk : ∀ k, k < w.heap.size → w'.heap[k]? = w.heap[k]?) : Cur w' g A n c := by
  have hlt := h.lt
  obtain ⟨i, h, hi, hb, ht, hne⟩ := h
  exact ⟨i, h, hi, (hk g hlt).trans hb, ht.keep fun _ a _ ha => hk _ ha, hne⟩
theorem Cur.below {w w' : World} {g : Nat} {A : Option Addr} {n c : Nat} (h : Cur w g A n c) (hb : Below w.heap.size w w') : Cur w' g A n c := h.keep fun k hk => hb.block k hk

theorem Bts.far {w : World} {A : Option Addr} {n g i : Nat} {u : Value} (h : Bts w A n) (hne : 0 < n → ∀ a, A = some a → a.block ≠ g) : Bts (w.setCell ⟨g, i, none⟩ u) A n :=
  h.keep fun hn a ha _ => Below.heap_setCell _ _ _ _ (hne hn a ha)
theorem Cur.set_h {w : World} {A : Option Addr} {n c g i p q : Nat} {h h2 : Int} (hi : i ≤ n) (hb : w.heap[g]? = some (.cells #[.slice A n c, .int .i64 i, .int .i64 h] 116 (0, 0))) (ht : Bts w A n) (hne : 0 < n → ∀ a, A = some a → a.block ≠ g) :
    Cur (((w.setCell ⟨g, 2, none⟩ (.int .i64 h2)).drewN p).drewN q) g A n c :=
  ⟨i, h2, hi, Joins.block_setCell hb _, Bts.far ht hne, hne⟩
theorem Cur.set_hi {w : World} {A : Option Addr} {n c g i p : Nat} {h h2 : Int} (hi : i < n) (hb : w.heap[g]? = some (.cells #[.slice A n c, .int .i64 i, .int .i64 h] 116 (0, 0))) (ht : Bts w A n) (hne : 0 < n → ∀ a, A = some a → a.block ≠ g) :
    Cur (((w.setCell ⟨g, 2, none⟩ (.int .i64 h2)).drewN p).setCell ⟨g, 1, none⟩ (.int .i64 ((i : Int) + 1))) g A n c := by
  refine ⟨i + 1, h2, by omega, ?_, Bts.far (Bts.far (w := w) ht hne) hne, hne⟩
  exact Joins.block_setCell (w := (w.setCell ⟨g, 2, none⟩ (.int .i64 h2)).drewN p) (Joins.block_setCell hb _) _
theorem and_bd (x : Int) (m : Nat) (hm : m < 9223372036854775808) : 0 ≤ bits .and .i64 x (m : Int) ∧ bits .and .i64 x (m : Int) ≤ m := by
  have e : bits .and .i64 x (m : Int) = IntKind.i64.wrap ((BitVec.ofInt 64 x &&& BitVec.ofInt 64 (m : Int)).toNat : Int) := rfl
  have h : (BitVec.ofInt 64 x &&& BitVec.ofInt 64 (m : Int)).toNat ≤ m := by
    rw [BitVec.toNat_and]
    refine Nat.le_trans Nat.and_le_right ?_
    rw [BitVec.ofInt_natCast, BitVec.toNat_ofNat]
    exact Nat.mod_le _ _
  rw [e, IntWalk.i64_in _ (by omega)]
  omega
theorem and255_bd (x : Int) : 0 ≤ bits .and .i64 x 255 ∧ bits .and .i64 x 255 ≤ 255 := and_bd x 255 (by omega)
theorem and30_bd (x : Int) : 0 ≤ bits .and .i64 x 1073741823 ∧ bits .and .i64 x 1073741823 ≤ 1073741823 := and_bd x 1073741823 (by omega)
theorem mod_bd (x m : Int) (h : 0 < m) : 0 ≤ x % m ∧ x % m < m := ⟨Int.emod_nonneg _ (by omega), Int.emod_lt_of_pos _ h⟩
/-- A byte is drawn. -/
def ByteOut (g : Nat) (A : Option Addr) (n c : Nat) (w : World) (e : Ending) (w' : World) : Prop := ∃ x : Nat, x ≤ 255 ∧ e = .returned (.int .i64 x) ∧ Cur w' g A n c ∧ Only g w w'
theorem l01Byte_any (g n c : Nat) (A : Option Addr) (w : World) (hC : Cur w g A n c) :
    Calls Try.prog 128 #[.pointer (some ⟨g, 0, none⟩)] w (ByteOut g A n c w) := by
  obtain ⟨i, h, hi, hb, ht, hne⟩ := hC
  have c0 : w.cell? ⟨g, 0, none⟩ = some (.slice A n c) := by rw [Joins.cell_of_block hb]; rfl
  have c1 : w.cell? ⟨g, 1, none⟩ = some (.int .i64 i) := by rw [Joins.cell_of_block hb]; rfl
  have c2 : w.cell? ⟨g, 2, none⟩ = some (.int .i64 h) := by rw [Joins.cell_of_block hb]; rfl
  have f1 : w.frozen? ⟨g, 1, none⟩ = false := Joins.unfrozen_of_block hb 1
  have f2 : w.frozen? ⟨g, 2, none⟩ = false := Joins.unfrozen_of_block hb 2
  have hn := ht.1
  have HB := Lib.hid hb
  clear hb
  by_cases hlt : i < n
  · obtain ⟨gb, o, rfl, hc⟩ := ht.2 (by omega)
    obtain ⟨v, hv0, hv1, hcv⟩ := hc i hlt
    have hgb : gb ≠ g := hne (by omega) _ rfl
    clear hc
    have HT := Lib.hid ht
    clear ht
    go_enter Try.func128, Try.ntmps128
    go_wp2_with fail
    generalize RowKit.wrap64 (RowKit.wrap64 (h * 6364136223846793005) + 1442695040888963407) = h2
    go_quiet (fail)
    go_wp2_with fail
    have hX := and255_bd (bits BinOp.xor IntKind.i64 (h2 / 8589934592) (h2 / 35184372088832))
    generalize bits BinOp.and IntKind.i64 (bits BinOp.xor IntKind.i64 (h2 / 8589934592) (h2 / 35184372088832)) 255 = X at hX ⊢
    obtain ⟨hX0, hX1⟩ := hX
    go_quiet (fail)
    go_wp2_with fail
    go_quiet (fail)
    go_wp2_with fail
    go_ret
    have hY := and255_bd (X + v)
    refine ⟨(bits .and .i64 (X + v) 255).toNat, by omega, ret_int (by omega), ?_, ((Only.setCell g 2 w _).trans (Only.drewN g _ _)).trans (Only.setCell g 1 _ _)⟩
    exact Cur.set_hi hlt HB.out HT.out hne
  · have hin : i = n := by omega
    go_enter Try.func128, Try.ntmps128
    go_wp2_with fail
    generalize RowKit.wrap64 (RowKit.wrap64 (h * 6364136223846793005) + 1442695040888963407) = h2
    go_quiet (fail)
    go_wp2_with fail
    have hX := and255_bd (bits BinOp.xor IntKind.i64 (h2 / 8589934592) (h2 / 35184372088832))
    generalize bits BinOp.and IntKind.i64 (bits BinOp.xor IntKind.i64 (h2 / 8589934592) (h2 / 35184372088832)) 255 = X at hX ⊢
    obtain ⟨hX0, hX1⟩ := hX
    go_quiet (fail)
    go_wp2_with fail
    go_ret
    refine ⟨X.toNat, by omega, ret_int (by omega), ?_, ((Only.setCell g 2 w _).trans (Only.drewN g _ _)).trans (Only.drewN g _ _)⟩
    exact Cur.set_h hi HB.out ht hne
/-- A number below m is drawn (0 where m is not above 0). -/
def BelowOut (g : Nat) (A : Option Addr) (n c : Nat) (m : Int) (w : World) (e : Ending) (w' : World) : Prop := ∃ x : Nat, (0 < m → (x : Int) < m) ∧ (m ≤ 0 → x = 0) ∧ e = .returned (.int .i64 x) ∧ Cur w' g A n c ∧ Only g w w'
theorem l01Below_any (g n c : Nat) (A : Option Addr) (m : Int) (w : World) (hC : Cur w g A n c) :
    Calls Try.prog 112 #[.pointer (some ⟨g, 0, none⟩), .int .i64 m] w (BelowOut g A n c m w) := by
  by_cases h0 : m ≤ 0
  · go_enter Try.func112, Try.ntmps112
    go_wp2
    go_ret
    exact ⟨0, by omega, by omega, rfl, hC, Only.refl _ _⟩
  · by_cases h1 : m ≤ 256
    · go_enter Try.func112, Try.ntmps112
      go_wp2_with fail
      refine (l01Byte_any g n c A _ hC).mono ?_
      rintro e w1 ⟨x, hx, rfl, hC1, ho1⟩
      go_wp2_with fail
      go_ret
      have hb := mod_bd x m h0
      exact ⟨((x : Int) % m).toNat, by omega, by omega, ret_int (by omega), hC1, ho1⟩
    · go_enter Try.func112, Try.ntmps112
      go_wp2_with fail
      refine (l01Byte_any g n c A _ hC).mono ?_
      rintro e w1 ⟨x, hx, rfl, hC1, ho1⟩
      go_wp2_with fail
      refine (l01Byte_any g n c A _ hC1).mono ?_
      rintro e w2 ⟨y, hy, rfl, hC2, ho2⟩
      go_wp2_with fail
      refine (l01Byte_any g n c A _ hC2).mono ?_
      rintro e w3 ⟨z, hz, rfl, hC3, ho3⟩
      go_wp2_with fail
      refine (l01Byte_any g n c A _ hC3).mono ?_
      rintro e w4 ⟨v, hv, rfl, hC4, ho4⟩
      go_wp2_with fail
      go_ret
      have hb := mod_bd ((x : Int) * 16777216 + y * 65536 + z * 256 + v) m h0
      exact ⟨(((x : Int) * 16777216 + y * 65536 + z * 256 + v) % m).toNat, by omega, by omega, ret_int (by omega), hC4, ((ho1.trans ho2).trans ho3).trans ho4⟩
/-- A cursor is made. -/
def NewOut (A : Option Addr) (n c : Nat) (w : World) (e : Ending) (w' : World) : Prop := ∃ g, w.heap.size ≤ g ∧ e = .returned (.pointer (some ⟨g, 0, none⟩)) ∧ Cur w' g A n c ∧ Below w.heap.size w w'
theorem Bts.lt {w : World} {A : Option Addr} {n : Nat} (h : Bts w A n) (hn : 0 < n) : ∀ a, A = some a → a.block < w.heap.size := by
  intro a ha
  obtain ⟨g, o, e, hc⟩ := h.2 hn
  obtain ⟨v, _, _, h3⟩ := hc 0 hn
  rw [ha] at e
  have e2 := Option.some.inj e
  rw [e2]
  exact World.block_lt_of_cell? w _ h3
theorem Cur.new {w : World} {A : Option Addr} {n c : Nat} {H : Int} (ht : Bts w A n) : Cur (w.alloc (.cells #[.slice A n c, .int .i64 0, .int .i64 H] 116)) w.heap.size A n c :=
  ⟨0, H, by omega, heap_alloc_new w _, ht.keep fun _ a _ ha => Below.heap_alloc _ _ _ ha, fun hn a ha => by have := ht.lt hn a ha; omega⟩
theorem l01New_any (n c : Nat) (A : Option Addr) (w : World) (ht : Bts w A n) :
    Calls Try.prog 82 #[.slice A n c] w (NewOut A n c w) := by
  have hn := ht.1
  have HT := Lib.hid ht
  go_enter Try.func82, Try.ntmps82
  go_wp2_with fail
  go_loop [3, 4] (fun h i => ∃ (k : Nat) (H : Int), k ≤ n ∧ i = .int .i64 k ∧ h = .int .i64 H ∧ 0 ≤ H ∧ H ≤ 2147483648) (fun _ i => n - (intOf i).toNat)
  case atStart => exact ⟨0, _, by omega, rfl, rfl, by omega, by omega⟩
  case round =>
    obtain ⟨k, H, hk, rfl, rfl, hH0, hH1⟩ := hrel
    by_cases hlt : k < n
    · by_cases h4 : (k : Int) < 4000
      · obtain ⟨gb, o, rfl, hc⟩ := ht.2 (by omega)
        obtain ⟨v, hv0, hv1, hcv⟩ := hc k hlt
        clear hc ht
        go_wp2
        have hb := and30_bd (H * 131 + v + 7)
        go_round
        case rel => exact ⟨k + 1, _, by omega, by go_num, rfl, by omega, by omega⟩
        case measure => simp [intOf]; omega
      · go_wp2
        go_ret
        exact ⟨_, Nat.le_refl _, rfl, Cur.new HT.out, (Below.refl _ _).alloc (Nat.le_refl _) _⟩
    · go_wp2
      go_ret
      exact ⟨_, Nat.le_refl _, rfl, Cur.new HT.out, (Below.refl _ _).alloc (Nat.le_refl _) _⟩
end Go.Proofs.Ytodnahpegecpiaa

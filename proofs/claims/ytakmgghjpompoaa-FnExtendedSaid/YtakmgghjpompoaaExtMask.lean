/- Contracts of ExtMask, the program's and the reference's. -/
import Derived.Test.YtakmgghjpompoaaBitsOk
import Derived.Test.YtakmgghjpompoaaOwn
namespace Go.Proofs.Ytakmgghjpompoaa
set_option linter.unusedSimpArgs false
set_option linter.unusedVariables false
open Go.RowKit
def times255 (l : List Int) : List Int := l.map fun x => 255 * x
/-- The masks of choices. -/
def extMaskL (l : List Int) : List Int := if decide (l.length ≤ 32) && allBit l then times255 l else []
theorem times_snoc {l : List Int} {k : Nat} (h : k < l.length) : times255 (l.take (k + 1)) = times255 (l.take k) ++ [255 * nth l k] := by
  rw [take_snoc l k h]; simp [times255]
theorem times_len (l : List Int) (k : Nat) : (times255 (l.take k)).length ≤ k := by simp [times255]; omega
set_option maxRecDepth 100000 in
theorem iExtMask_any (A : Option Addr) (n c : Nat) (l : List Int) (w : World) (h : Ints w A n l) (hn : n ≤ 1048576) :
    Calls Try.prog 47 #[.slice A n c] w fun e w' => ∃ v, e = .returned v ∧ Own w' w.heap.size v (extMaskL l) ∧ Below w.heap.size w w' := by
  have hl := Lib.hid h.len
  by_cases h32 : (32 : Int) < n
  · have hx := Lib.hid (show extMaskL l = [] by simp [extMaskL, hl.out]; omega)
    go_enter Try.func47, Try.ntmps47
    go_wp2
    go_ret
    exact ⟨_, rfl, by rw [hx.out]; exact Own.nil, Below.refl _ _⟩
  · by_cases hb : allBit l = true
    · have hx := Lib.hid (show extMaskL l = times255 l by simp [extMaskL, hl.out, hb]; omega)
      go_enter Try.func47, Try.ntmps47
      go_wp2_with (go_at_call 78; refine (areBits_any _ _ _ _ _ h (by omega)).mono ?_; rintro e w' ⟨rfl, rfl⟩)
      go_loopw [3, 17] (fun v i wr => ∃ k : Nat, k ≤ n ∧ i = .int .i64 k ∧ Own wr w.heap.size v (times255 (l.take k)) ∧ Below w.heap.size w wr) (fun _ i _ => n - (intOf i).toNat)
      case atStart => exact ⟨0, by omega, rfl, Own.empty (Nat.le_refl _) rfl, (Below.refl _ _).alloc (Nat.le_refl _) _⟩
      case round =>
        obtain ⟨k, hk, rfl, hown, hbr⟩ := hrel
        by_cases hlt : k < n
        · obtain ⟨g, o, rfl, hg, hc⟩ := h.block (by omega)
          have hck : wr.cell? ⟨g, o + k, none⟩ = some (.int .i64 (nth l k)) := (hbr.cell hg).trans (hc k hlt)
          have hbit := inB_iff.1 (all_nth (k := k) hb (by rw [hl.out]; exact hlt))
          have hsn := Lib.hid (times_snoc (l := l) (k := k) (by rw [hl.out]; exact hlt))
          have htl := times_len l k
          have hzr := hbr.size
          clear hc hb
          go_wp2_with (at_builtin; go_must (refine append_int rfl _ _ rfl w.heap.size u3 (times255 (l.take k)) (255 * nth l k) wr.heap.size rfl rfl hown rfl (by omega) (by omega) ?_); intro v' w3 hown3 hg3)
          have hB3 := hown.belowBase (by omega) hg3
          go_roundw
          case rel => exact ⟨k + 1, by omega, by go_num, by rw [hsn.out]; exact hown3, hbr.trans hB3⟩
          case measure => simp [intOf]; omega
        · go_wp2
          go_ret
          exact ⟨_, rfl, by rw [hx.out, ← List.take_of_length_le (l := l) (i := k) (by rw [hl.out]; omega)]; exact hown, hbr⟩
    · have hb2 : allBit l = false := by simpa using hb
      have hx := Lib.hid (show extMaskL l = [] by simp [extMaskL, hb2])
      go_enter Try.func47, Try.ntmps47
      go_wp2_with (go_at_call 78; refine (areBits_any _ _ _ _ _ h (by omega)).mono ?_; rintro e w' ⟨rfl, rfl⟩)
      go_ret
      exact ⟨_, rfl, by rw [hx.out]; exact Own.nil, Below.refl _ _⟩
set_option maxRecDepth 100000 in
theorem sExtMask_any (A : Option Addr) (n c : Nat) (l : List Int) (w : World) (h : Ints w A n l) (hn : n ≤ 1048576) :
    Calls Try.prog 45 #[.slice A n c] w fun e w' => ∃ v, e = .returned v ∧ Own w' w.heap.size v (extMaskL l) ∧ Below w.heap.size w w' := by
  have hl := Lib.hid h.len
  by_cases h0 : n = 0
  · subst h0
    have hx := Lib.hid (show extMaskL l = [] by have : l = [] := List.eq_nil_of_length_eq_zero hl.out; simp [this, extMaskL, times255])
    go_enter Try.func45, Try.ntmps45
    go_wp2_with fail
    refine wp_loop_rounds 1 ?_
    rw [rounds_succ]
    go_wp2
    go_ret
    exact ⟨_, rfl, by rw [hx.out]; exact Own.empty (Nat.le_refl _) rfl, (Below.refl _ _).alloc (Nat.le_refl _) _⟩
  by_cases h32 : (32 : Int) < n
  · have hx := Lib.hid (show extMaskL l = [] by simp [extMaskL, hl.out]; omega)
    go_enter Try.func45, Try.ntmps45
    go_wp2_with fail
    refine wp_loop_rounds 1 ?_
    rw [rounds_succ]
    go_wp2
    go_ret
    exact ⟨_, rfl, by rw [hx.out]; exact Own.empty (Nat.le_refl _) rfl, (Below.refl _ _).alloc (Nat.le_refl _) _⟩
  · by_cases hb : allBit l = true
    · have hx := Lib.hid (show extMaskL l = times255 l by simp [extMaskL, hl.out, hb]; omega)
      have hok : bitsOk l (n : Int) = true := by simp [bitsOk, hb, hl.out]
      go_enter Try.func45, Try.ntmps45
      go_wp2_with fail
      go_loopw [3, 4] (fun v i wr => ∃ k : Nat, k ≤ n ∧ i = .int .i64 k ∧ Own wr w.heap.size v (times255 (l.take k)) ∧ Below w.heap.size w wr) (fun _ i _ => n - (intOf i).toNat)
      case atStart => exact ⟨0, by omega, rfl, Own.empty (Nat.le_refl _) rfl, (Below.refl _ _).alloc (Nat.le_refl _) _⟩
      case round =>
        obtain ⟨k, hk, rfl, hown, hbr⟩ := hrel
        have hI := h.below hbr
        by_cases hlt : k < n
        · obtain ⟨g, o, rfl, hg, hc⟩ := h.block (by omega)
          have hck : wr.cell? ⟨g, o + k, none⟩ = some (.int .i64 (nth l k)) := (hbr.cell hg).trans (hc k hlt)
          have hbit := inB_iff.1 (all_nth (k := k) hb (by rw [hl.out]; exact hlt))
          have hsn := Lib.hid (times_snoc (l := l) (k := k) (by rw [hl.out]; exact hlt))
          have htl := times_len l k
          have hzr := hbr.size
          clear hc hb
          go_wp2_with fail
          refine (l13Bits_any _ _ _ _ _ _ hI (by omega)).mono ?_
          rintro e w' ⟨rfl, rfl⟩
          go_wp2_with (at_builtin; go_must (refine append_int rfl _ _ rfl w.heap.size u3 (times255 (l.take k)) (255 * nth l k) wr.heap.size rfl rfl hown rfl (by omega) (by omega) ?_); intro v' w3 hown3 hg3)
          have hB3 := hown.belowBase (by omega) hg3
          go_roundw
          case rel => exact ⟨k + 1, by omega, by go_num, by rw [hsn.out]; exact hown3, hbr.trans hB3⟩
          case measure => simp [intOf]; omega
        · go_wp2
          go_ret
          exact ⟨_, rfl, by rw [hx.out, ← List.take_of_length_le (l := l) (i := k) (by rw [hl.out]; omega)]; exact hown, hbr⟩
    · have hb2 : allBit l = false := by simpa using hb
      have hx := Lib.hid (show extMaskL l = [] by simp [extMaskL, hb2])
      have hok : bitsOk l (n : Int) = false := by simp [bitsOk, hb2]
      have hn0 : 0 < n := by omega
      go_enter Try.func45, Try.ntmps45
      go_wp2_with fail
      refine wp_loop_rounds 1 ?_
      rw [rounds_succ]
      go_wp2_with (go_at_call 77; refine (l13Bits_any _ _ _ _ _ _ (h.alloc _) (by omega)).mono ?_; rintro e w' ⟨rfl, rfl⟩)
      go_ret
      exact ⟨_, rfl, by rw [hx.out]; exact Own.empty (Nat.le_refl _) rfl, (Below.refl _ _).alloc (Nat.le_refl _) _⟩
end Go.Proofs.Ytakmgghjpompoaa

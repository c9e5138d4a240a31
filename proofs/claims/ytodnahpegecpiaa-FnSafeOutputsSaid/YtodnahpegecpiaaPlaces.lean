/- Contract of DrawPlaces: twelve numbers from 0 to 9999. -/
import Derived.Test.YtodnahpegecpiaaDraw
import Derived.Test.YtodnahpegecpiaaOwn
namespace Go.Proofs.Ytodnahpegecpiaa
set_option linter.unusedSimpArgs false
set_option linter.unusedVariables false
open Go.RowKit
theorem all_snoc_bd {l : List Int} {x m : Int} (h : ∀ y ∈ l, 0 ≤ y ∧ y < m) (hx : 0 ≤ x ∧ x < m) : ∀ y ∈ l ++ [x], 0 ≤ y ∧ y < m := by
  intro y hy
  rcases List.mem_append.1 hy with hy | hy
  · exact h y hy
  · simp at hy; subst hy; exact hx
/-- A cursor stays below a bound of blocks. -/
theorem Cur.belowB {w w' : World} {B g : Nat} {A : Option Addr} {n c : Nat} (h : Cur w g A n c) (hb : Below B w w') (hg : g < B) (hA : 0 < n → ∀ a, A = some a → a.block < B) : Cur w' g A n c := by
  obtain ⟨i, h, hi, hk, ht, hne⟩ := h
  exact ⟨i, h, hi, (hb.block g hg).trans hk, ht.keep fun hn a ha _ => hb.block _ (hA hn a ha), hne⟩
theorem Bts.lt' {w w' : World} {A : Option Addr} {n : Nat} (h : Bts w A n) (hb : Below w.heap.size w w') : 0 < n → ∀ a, A = some a → a.block < w'.heap.size :=
  fun hn a ha => Nat.lt_of_lt_of_le (h.lt hn a ha) hb.size
def Places (w : World) (e : Ending) (w' : World) : Prop := ∃ (v : Value) (l : List Int), e = .returned v ∧ l.length = 12 ∧ (∀ x ∈ l, 0 ≤ x ∧ x < 10000) ∧ Own w' w.heap.size v l ∧ Below w.heap.size w w'
set_option maxRecDepth 100000 in
theorem DrawPlaces_any (n c : Nat) (A : Option Addr) (w : World) (ht : Bts w A n) :
    Calls Try.prog 55 #[.slice A n c] w (Places w) := by
  go_enter Try.func55, Try.ntmps55
  go_wp2_with fail
  refine (l01New_any n c A w ht).mono ?_
  rintro e w1 ⟨g, hg, rfl, hC, hb1⟩
  go_wp2_with fail
  have hgl := hC.lt
  go_loopw [4, 5] (fun v i wr => ∃ (k : Nat) (l : List Int), k ≤ 12 ∧ i = .int .i64 k ∧ l.length = k ∧ (∀ x ∈ l, 0 ≤ x ∧ x < 10000) ∧ Own wr w1.heap.size v l ∧ Cur wr g A n c ∧ Below w.heap.size w wr ∧ w1.heap.size ≤ wr.heap.size) (fun _ i _ => 12 - (intOf i).toNat)
  case atStart => exact ⟨0, [], by omega, rfl, rfl, by simp, World.ownsRow_made w1 #[] 0 (Nat.le_refl _) (by unfold maxLen; omega) rfl, hC.below ((Below.refl _ _).alloc (Nat.le_refl _) _), hb1.alloc hb1.size _, by simp⟩
  case round =>
    obtain ⟨k, l, hk, rfl, hl, hall, hown, hCr, hbr, hzr⟩ := hrel
    by_cases hlt : k < 12
    · have HA := Lib.hid hall
      have HL := Lib.hid hl
      clear hall hl
      go_wp2_with fail
      refine (l01Below_any g n c A 10000 _ hCr).mono ?_
      rintro e w2 ⟨x, hx, _, rfl, hC2, ho2⟩
      have hx' := hx (by omega)
      have hown2 := hown.only hgl ho2
      have hz2 := ho2.size
      go_wp2_with (at_builtin; go_must (refine append_int rfl _ _ rfl w1.heap.size u4 l x w2.heap.size rfl rfl hown2 rfl (by rw [HL.out]; omega) (by omega) ?_); intro v' w3 hown3 hg3)
      have hB3 := hown2.belowBase (by omega) hg3
      have hC3 := hC2.belowB hB3 hgl (ht.lt' hb1)
      have hl := HL.out
      have hall := HA.out
      go_roundw
      case rel => exact ⟨k + 1, l ++ [(x : Int)], by omega, by go_num, by simp [hl], all_snoc_bd hall (by omega), hown3, hC3, (Only.below hbr hg hbr.size ho2).trans (hB3.mono hb1.size), by have := hB3.size; omega⟩
      case measure => simp [intOf]; omega
    · go_wp2
      go_ret
      exact ⟨_, l, rfl, by omega, hall, hown.mono hb1.size, hbr⟩
end Go.Proofs.Ytodnahpegecpiaa

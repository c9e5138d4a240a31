/- The statements' helpers over slices, told of owned objects; blocks over calls that write. -/
import Derived.Test.YtodnahpegecpiaaObj
import Derived.Test.YtodnahpegecpiaaBox
namespace Go.Proofs.Ytodnahpegecpiaa
set_option linter.unusedSimpArgs false
set_option linter.unusedVariables false
open Go.RowKit
theorem Box.chg {w w' : World} {g lo hi : Nat} {cs : Array Value} {t : TypeId} (h : Box w g cs t) (c : Chg lo hi w w') (hd : g < lo ∨ hi ≤ g) : Box w' g cs t := (c.block g h.lt hd).trans h
theorem Chg.of_alloc {w w' : World} {lo hi : Nat} (o : Obj) (h : Chg lo hi (w.alloc o) w') : Chg lo hi w w' :=
  (Chg.of_below ((Below.refl _ w).alloc (Nat.le_refl _) o)).trans h
/-- The gates that marking leaves: numbers that follow on one another. -/
def seqG (k n : Nat) : List (Int × Int × Int) := (List.range n).map fun j => (((k + 3 * j : Nat) : Int), ((k + 3 * j + 1 : Nat) : Int), ((k + 3 * j + 2 : Nat) : Int))
theorem seqG_len (k n : Nat) : (seqG k n).length = n := by simp [seqG]
/-- A slice among the arguments, of whatever length. -/
def Rd0 (w : World) (v : Value) (l : List Int) : Prop := ∃ A n c, v = .slice A n c ∧ n ≤ maxLen ∧ Ints w A n l
theorem Rd0.rd {w : World} {v : Value} {l : List Int} (h : Rd0 w v l) : Rd w v l := by
  obtain ⟨A, n, c, e, _, hI⟩ := h; exact ⟨A, n, c, e, hI⟩
theorem Rd0.below {w w' : World} {v : Value} {l : List Int} (h : Rd0 w v l) (hb : Below w.heap.size w w') : Rd0 w' v l := by
  obtain ⟨A, n, c, e, hm, hI⟩ := h; exact ⟨A, n, c, e, hm, hI.below hb⟩
theorem toIntS_L {v : Value} {l : List Int} {w : World} (h : RdL w [(v, .ints l)]) (hn : l.length ≤ 1048576) :
    Calls Try.prog 35 #[v] w fun e w' => ∃ A n c, e = .returned (.slice A n c) ∧ OwnL w' w.heap.size w'.heap.size [(.slice A n c, .ints l)] ∧ Below w.heap.size w w' := by
  refine (toIntS_R h.ints hn).mono ?_
  rintro e w' ⟨v', rfl, h1, h2⟩
  have h3 := h1.ownL h2.size
  obtain ⟨A, n, c, rfl⟩ := h3.form
  exact ⟨A, n, c, rfl, h3, h2⟩
theorem eqIntS_L {v v2 : Value} {l : List Int} {w : World} (h : RdL w [(v, .ints l)]) (h2 : RdL w [(v2, .ints l)]) (hn : l.length ≤ 1048576) :
    Calls Try.prog 37 #[v, v2] w fun e w' => e = .returned (.bool true) ∧ Below w.heap.size w w' := eqIntS_R h.ints h2.ints hn
theorem markIntS_L {lo hi : Nat} {pre post : List (Value × Dat)} {v : Value} {l : List Int} {w : World} (k0 : Nat) (K : Int) (h : OwnL w lo hi (pre ++ (v, .ints l) :: post)) (hK : K = k0) (hk : k0 ≤ 1000000000000) (hn : l.length ≤ 1048576) :
    Calls Try.prog 45 #[v, .int .i64 K] w fun e w' => e = .returned (.int .i64 ((k0 + l.length : Nat) : Int)) ∧ OwnL w' lo hi (pre ++ (v, .ints (seqL k0 l.length)) :: post) ∧ Chg lo hi w w' := by
  subst hK
  have ho : Own w lo v l := h.get (p := (v, .ints l)) (by simp)
  refine (markIntS_any lo k0 v l w ho hn (by omega)).mono ?_
  rintro e w' ⟨rfl, h1, h2⟩
  exact ⟨rfl, h.set (show OwnD w' lo v (.ints (seqL k0 l.length)) by have := seqL_len k0 l.length; unfold OwnD; exact h1) h2, h.chg h2⟩
theorem heldIntS_L {v : Value} {w : World} (n : Nat) (k0 : Nat) (K : Int) (h : RdL w [(v, .ints (seqL k0 n))]) (hK : K = k0) (hk : k0 ≤ 1000000000000) (hn : n ≤ 1048576) :
    Calls Try.prog 46 #[v, .int .i64 K] w fun e w' => e = .returned (.int .i64 ((k0 + n : Nat) : Int)) ∧ w = w' := by
  subst hK
  obtain ⟨A, m, c, rfl, hI⟩ := h.ints
  have e := hI.len
  rw [seqL_len] at e
  subst e
  exact heldIntS_any k0 A n c w hI hn (by omega)
theorem szIntS_yes {v : Value} {l : List Int} {w : World} (h : Rd0 w v l) (left : Nat) (K : Int) (hK : K = left) (hleft : left ≤ 1048576) (hle : l.length ≤ left) :
    Calls Try.prog 103 #[v, .int .i64 K] w fun e w' => e = .returned (.int .i64 ((left - l.length : Nat) : Int)) ∧ Below w.heap.size w w' := by
  obtain ⟨A, n, c, rfl, _, hI⟩ := h
  have hl := hI.len
  rw [hl] at hle ⊢
  subst hK
  have hm : (0 : Int) ≤ (left : Int) - (n : Int) := by omega
  go_enter Try.func103, Try.ntmps103
  go_wp2
  go_ret
  exact ⟨ret_int (by omega), Below.refl _ _⟩
theorem szIntS_no {v : Value} {l : List Int} {w : World} (h : Rd0 w v l) (left : Nat) (K : Int) (hK : K = left) (hleft : left ≤ 1048576) (hle : ¬ l.length ≤ left) :
    Calls Try.prog 103 #[v, .int .i64 K] w fun e w' => e = .returned (.int .i64 (-1)) ∧ Below w.heap.size w w' := by
  obtain ⟨A, n, c, rfl, hmax, hI⟩ := h
  have hl := hI.len
  rw [hl] at hle
  unfold maxLen at hmax
  subst hK
  have hm : (left : Int) - (n : Int) < 0 := by omega
  have hw : wrap64 ((left : Int) - (n : Int)) = (left : Int) - (n : Int) := by unfold wrap64; omega
  go_enter Try.func103, Try.ntmps103
  go_wp2
  go_ret
  exact ⟨rfl, Below.refl _ _⟩
end Go.Proofs.Ytodnahpegecpiaa

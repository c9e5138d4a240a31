/- Contracts of the generators of words and tapes: l01PickInt, l02Word, l04Tape, DrawTape. -/
import Derived.Test.YtodnahpegecpiaaDraw
import Derived.Test.YtodnahpegecpiaaPlaces
import Derived.Test.YtodnahpegecpiaaBox
namespace Go.Proofs.Ytodnahpegecpiaa
set_option linter.unusedSimpArgs false
set_option linter.unusedVariables false
open Go.RowKit
/-- One of the numbers is drawn. -/
def PickOut (l : List Int) (g : Nat) (A : Option Addr) (n c : Nat) (w : World) (e : Ending) (w' : World) : Prop := ∃ j : Nat, j < l.length ∧ e = .returned (.int .i64 (nth l j)) ∧ Cur w' g A n c ∧ Only g w w'
set_option maxRecDepth 100000 in
theorem l01PickInt_any (g n c : Nat) (A : Option Addr) (b o m d : Nat) (l : List Int) (w : World) (hC : Cur w g A n c) (hl : l.length = m) (hc : ∀ j, j < m → w.cell? ⟨b, o + j, none⟩ = some (.int .i64 (nth l j))) (hm0 : 0 < m) (hm : m ≤ 256) (hne : b ≠ g) :
    Calls Try.prog 129 #[.pointer (some ⟨g, 0, none⟩), .slice (some ⟨b, o, none⟩) m d] w (PickOut l g A n c w) := by
  have HL := Lib.hid hl
  clear hl
  go_enter Try.func129, Try.ntmps129
  go_wp2_with fail
  refine (l01Below_any g n c A m _ hC).mono ?_
  rintro e w1 ⟨x, hx, _, rfl, hC1, ho1⟩
  have hxm : x < m := by have := hx (by omega); omega
  have hcx : w1.cell? ⟨b, o + x, none⟩ = some (.int .i64 (nth l x)) := ho1.cell (hc x hxm) (by simp; exact hne)
  clear hc hx
  go_wp2
  go_ret
  exact ⟨x, by rw [HL.out]; exact hxm, rfl, hC1, ho1⟩
theorem Cur.alloc {w : World} {g : Nat} {A : Option Addr} {n c : Nat} (h : Cur w g A n c) (o : Obj) : Cur (w.alloc o) g A n c := h.below ((Below.refl _ _).alloc (Nat.le_refl _) o)
theorem Only.alloc {g : Nat} (w : World) (o : Obj) : Only g w (w.alloc o) := Only.of_below ((Below.refl _ _).alloc (Nat.le_refl _) o)
theorem Cur.setFar {w : World} {g k i : Nat} {u : Value} {A : Option Addr} {n c : Nat} (h : Cur w g A n c) (hk : k ≠ g) (hA : 0 < n → ∀ a, A = some a → a.block ≠ k) : Cur (w.setCell ⟨k, i, none⟩ u) g A n c := by
  obtain ⟨i0, h0, hi, hb, ht, hne⟩ := h
  exact ⟨i0, h0, hi, (Below.heap_setCell _ _ _ _ (fun e => hk (by simpa using e.symm))).trans hb, ht.far hA, hne⟩
theorem Only.setNew {g k i : Nat} {w w' : World} {u : Value} (h : Only g w w') (hk : w.heap.size ≤ k) : Only g w (w'.setCell ⟨k, i, none⟩ u) :=
  ⟨h.os, h.tape, h.output, by have := h.size; simpa using this, fun j hj hne => (Below.heap_setCell _ _ _ _ (fun e => by simp at e; omega)).trans (h.block j hj hne)⟩
theorem Only.toBelow {g : Nat} {w w' : World} {B : Nat} (h : Only g w w') (hB : B ≤ w.heap.size) (hg : B ≤ g) : Below B w w' := Only.below (Below.refl _ _) hg hB h
/-- A word is drawn. -/
def WordOut (g : Nat) (A : Option Addr) (n c : Nat) (w : World) (e : Ending) (w' : World) : Prop := ∃ x : Nat, x ≤ 4294967295 ∧ e = .returned (.int .i64 x) ∧ Cur w' g A n c ∧ Only g w w'
theorem words5 : ∀ j < 5, 0 ≤ nth [0, 1, 4294967295, 2147483648, 65536] j ∧ nth [0, 1, 4294967295, 2147483648, 65536] j ≤ 4294967295 := by decide
set_option maxRecDepth 100000 in
theorem l02Word_any (g n c : Nat) (A : Option Addr) (w : World) (hC : Cur w g A n c) :
    Calls Try.prog 116 #[.pointer (some ⟨g, 0, none⟩)] w (WordOut g A n c w) := by
  go_enter Try.func116, Try.ntmps116
  go_wp2_with fail
  refine (l01Below_any g n c A 4 _ hC).mono ?_
  rintro e w1 ⟨x, hx, _, rfl, hC1, ho1⟩
  have hx4 := hx (by omega)
  by_cases h0 : x = 0
  · subst h0
    go_wp2_with fail
    refine (l01PickInt_any g n c A w1.heap.size 0 5 5 [0, 1, 4294967295, 2147483648, 65536] _ (hC1.alloc _) rfl (fun j hj => by
      rw [World.cell?_alloc_at _ _ _ _ rfl]
      match j, hj with
      | 0, _ => rfl
      | 1, _ => rfl
      | 2, _ => rfl
      | 3, _ => rfl
      | 4, _ => rfl) (by omega) (by omega) (by have := hC1.lt; omega)).mono ?_
    rintro e w2 ⟨j, hj, rfl, hC2, ho2⟩
    go_wp2
    go_ret
    have hb := words5 j hj
    exact ⟨(nth [0, 1, 4294967295, 2147483648, 65536] j).toNat, by omega, ret_int (by omega), hC2, ho1.trans ((Only.alloc _ _).trans ho2)⟩
  · by_cases h1 : x = 1
    · subst h1
      go_wp2_with fail
      refine (l01Below_any g n c A 200 _ hC1).mono ?_
      rintro e w2 ⟨y, hy, _, rfl, hC2, ho2⟩
      have := hy (by omega)
      go_wp2
      go_ret
      exact ⟨y, by omega, rfl, hC2, ho1.trans ho2⟩
    · have e0 : ((x : Int) == 0) = false := by simp; omega
      have e1 : ((x : Int) == 1) = false := by simp; omega
      go_wp2_with fail
      refine (l01Below_any g n c A 65536 _ hC1).mono ?_
      rintro e w2 ⟨y, hy, _, rfl, hC2, ho2⟩
      have := hy (by omega)
      go_wp2_with fail
      refine (l01Below_any g n c A 65536 _ hC2).mono ?_
      rintro e w3 ⟨z, hz, _, rfl, hC3, ho3⟩
      have := hz (by omega)
      go_wp2
      go_ret
      exact ⟨y * 65536 + z, by omega, ret_int (by omega), hC3, (ho1.trans ho2).trans ho3⟩
/-- A tape is drawn. -/
def TapeOut (g : Nat) (A : Option Addr) (n c : Nat) (w : World) (e : Ending) (w' : World) : Prop := ∃ s a : Nat, s ≤ 4294967295 ∧ a < 50 ∧ e = .returned (.agg #[.int .i64 s, .int .i64 a]) ∧ Cur w' g A n c ∧ Only g w w'
set_option maxRecDepth 100000 in
theorem l04Tape_any (g n c : Nat) (A : Option Addr) (w : World) (hC : Cur w g A n c) :
    Calls Try.prog 85 #[.pointer (some ⟨g, 0, none⟩)] w (TapeOut g A n c w) := by
  have hg := hC.lt
  go_enter Try.func85, Try.ntmps85
  go_wp2_with fail
  refine (l02Word_any g n c A _ (hC.alloc _)).mono ?_
  rintro e w1 ⟨x, hx, rfl, hC1, ho1⟩
  go_wp2_with fail
  refine (l01Below_any g n c A 50 _ hC1).mono ?_
  rintro e w2 ⟨y, hy, _, rfl, hC2, ho2⟩
  have hy50 := hy (by omega)
  have hx2 : Box w2 w.heap.size #[.int .i64 0, .int .i64 0] 29 := ((Box.new w _ _ rfl).only ho1 (by simp; omega)).only ho2 (by simp; omega)
  have hz1 := ho1.size
  have hz2 := ho2.size
  simp only [World.size_alloc] at hz1
  obtain ⟨d0, d1, g0, g1⟩ := hx2.two
  go_wp2
  refine bodyPost_ret (v := .agg #[.int .i64 x, .int .i64 y]) (by simp [results, Try.results85, go_sem, d0, d1, g0, g1]) rfl ⟨x, y, hx, by omega, rfl, ?_, ?_⟩
  · have hlt : 0 < n → ∀ a, A = some a → a.block ≠ w.heap.size := fun hn a ha => by
      obtain ⟨_, _, _, _, ht, _⟩ := hC
      have := ht.lt hn a ha; omega
    exact (hC2.setFar (by omega) hlt).setFar (by omega) hlt
  · exact (((Only.alloc w _).trans (ho1.trans ho2)).setNew (Nat.le_refl _)).setNew (Nat.le_refl _)
/-- A tape is drawn out of bytes. -/
def TapeD (w : World) (e : Ending) (w' : World) : Prop := ∃ s a : Nat, s ≤ 4294967295 ∧ a < 50 ∧ e = .returned (.agg #[.int .i64 s, .int .i64 a]) ∧ Below w.heap.size w w'
end Go.Proofs.Ytodnahpegecpiaa

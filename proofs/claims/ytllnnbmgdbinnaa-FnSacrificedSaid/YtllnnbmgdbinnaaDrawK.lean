/- Contracts of the generators of primes and keys: l03Prime, DrawPrime, l23Keys, DrawKeys. -/
import Derived.Test.YtllnnbmgdbinnaaDraw2
import Derived.Test.YtllnnbmgdbinnaaKeysN
namespace Go.Proofs.Ytllnnbmgdbinnaa
set_option linter.unusedSimpArgs false
set_option linter.unusedVariables false
open Go.RowKit
/-- A prime is drawn. -/
def PrimeOut (g : Nat) (A : Option Addr) (n c : Nat) (w : World) (e : Ending) (w' : World) : Prop := ∃ p : Nat, fOk p = true ∧ e = .returned (.int .i64 p) ∧ Cur w' g A n c ∧ Only g w w'
theorem primes9 : ∀ j < 9, fOk (nth [2, 3, 5, 7, 11, 13, 31, 97, 101] j) = true := by decide
set_option maxRecDepth 100000 in
theorem l03Prime_any (g n c : Nat) (A : Option Addr) (w : World) (hC : Cur w g A n c) :
    Calls Try.prog 89 #[.pointer (some ⟨g, 0, none⟩)] w (PrimeOut g A n c w) := by
  go_enter Try.func89, Try.ntmps89
  go_wp2_with fail
  refine (l01PickInt_any g n c A w.heap.size 0 9 9 [2, 3, 5, 7, 11, 13, 31, 97, 101] _ (hC.alloc _) rfl (fun j hj => by
    rw [World.cell?_alloc_at _ _ _ _ rfl]
    match j, hj with
    | 0, _ => rfl
    | 1, _ => rfl
    | 2, _ => rfl
    | 3, _ => rfl
    | 4, _ => rfl
    | 5, _ => rfl
    | 6, _ => rfl
    | 7, _ => rfl
    | 8, _ => rfl) (by omega) (by omega) (by have := hC.lt; omega)).mono ?_
  rintro e w2 ⟨j, hj, rfl, hC2, ho2⟩
  go_wp2
  go_ret
  have hb := primes9 j hj
  have hp := fOk_bd hb
  exact ⟨(nth [2, 3, 5, 7, 11, 13, 31, 97, 101] j).toNat, by rw [Int.toNat_of_nonneg (by omega)]; exact hb, ret_int (by omega), hC2, (Only.alloc _ _).trans ho2⟩
def PrimeD (w : World) (e : Ending) (w' : World) : Prop := ∃ p : Nat, fOk p = true ∧ e = .returned (.int .i64 p) ∧ Below w.heap.size w w'
set_option maxRecDepth 100000 in
theorem DrawPrime_any (n c : Nat) (A : Option Addr) (w : World) (ht : Bts w A n) :
    Calls Try.prog 31 #[.slice A n c] w (PrimeD w) := by
  go_enter Try.func31, Try.ntmps31
  go_wp2_with fail
  refine (l01New_any n c A _ ht).mono ?_
  rintro e w1 ⟨g, hg, rfl, hC, hb1⟩
  go_wp2_with fail
  refine (l03Prime_any g n c A _ hC).mono ?_
  rintro e w2 ⟨p, hp, rfl, hC2, ho2⟩
  go_wp2
  go_ret
  exact ⟨p, hp, rfl, Only.below hb1 hg hb1.size ho2⟩
/-- Keys are drawn. -/
def KeysOut (g : Nat) (A : Option Addr) (n c : Nat) (w : World) (e : Ending) (w' : World) : Prop := ∃ (p : Nat) (al : List Int) (B : Option Addr) (m d : Nat), keysOk p al = true ∧ e = .returned (.agg #[.int .i64 p, .slice B m d]) ∧ OwnL w' w.heap.size w'.heap.size [(.slice B m d, .ints al)] ∧ Cur w' g A n c ∧ Only g w w'
theorem kOk_draw {p n s a : Nat} (hp : fOk p = true) (hn : 1 ≤ n ∧ n ≤ 5) (hs : s ≤ 4294967295) (ha : a < 50) : kOk p n s a = true ∧ keysOk p (kL p n s a) = true := by
  have h9 : t9 s a = true := t9_iff.2 (by omega)
  have hk : kOk p n s a = true := by simp only [kOk, hp, h9, inB_iff.2 (show (1 : Int) ≤ n ∧ (n : Int) ≤ 5 by omega), Bool.true_and, Bool.and_true]
  have hl := list_ok (p := p) (s := s) (a := a) (k := n) hp (by omega) (by omega) (by omega)
  refine ⟨hk, keysOk_iff.2 ?_⟩
  unfold kL
  rw [if_pos hk, tapeL_length hl]
  exact ⟨hn.1, hn.2, tapeL_el hp⟩
set_option maxRecDepth 100000 in
set_option maxHeartbeats 2000000 in
theorem l23Keys_any (g n c : Nat) (A : Option Addr) (w : World) (hC : Cur w g A n c) :
    Calls Try.prog 123 #[.pointer (some ⟨g, 0, none⟩)] w (KeysOut g A n c w) := by
  have hg := hC.lt
  have hlt : 0 < n → ∀ a, A = some a → a.block ≠ w.heap.size := fun hn a ha => by
    obtain ⟨_, _, _, _, ht, _⟩ := hC
    have := ht.lt hn a ha; omega
  go_enter Try.func123, Try.ntmps123
  go_wp2_with fail
  refine (l03Prime_any g n c A _ (hC.alloc _)).mono ?_
  rintro e w1 ⟨p, hp, rfl, hC1, ho1⟩
  go_wp2_with fail
  refine (l01Below_any g n c A 5 _ hC1).mono ?_
  rintro e w2 ⟨y, hy, _, rfl, hC2, ho2⟩
  have hy5 := hy (by omega)
  go_wp2_with fail
  refine (l04Tape_any g n c A _ hC2).mono ?_
  rintro e w3 ⟨s, a, hs, ha, rfl, hC3, ho3⟩
  have hw : wrap64 (1 + (y : Int)) = ((1 + y : Nat) : Int) := by unfold wrap64; omega
  go_wp2_with fail
  refine (sKeysNew_L (p : Int) ((1 + y : Nat) : Int) (s : Int) (a : Int)).mono ?_
  rintro e w4 ⟨B, m, d, rfl, r, b4⟩
  obtain ⟨hok, hkeys⟩ := kOk_draw (p := p) (n := 1 + y) (s := s) (a := a) hp (by omega) hs ha
  rw [kP_yes hok, kT_yes hok, hok]
  have hx : Box w4 w.heap.size #[.int .i64 0, .slice none 0 0] 33 := ((((Box.new w _ _ rfl).only ho1 (by simp; omega)).only ho2 (by simp; omega)).only ho3 (by simp; omega)).below b4 (by have := ho1.size; have := ho2.size; have := ho3.size; simp at *; omega)
  have hz1 := ho1.size
  have hz2 := ho2.size
  have hz3 := ho3.size
  have hz4 := b4.size
  simp only [World.size_alloc] at hz1
  have hl : w.heap.size < w4.heap.size := by omega
  have hl1 : w.heap.size < w4.heap.size + 1 := by omega
  obtain ⟨d0, d1, g0, g1⟩ := hx.two
  clear hw
  go_wp2
  refine bodyPost_ret (v := .agg #[.int .i64 p, .slice B m d]) (by simp [results, Try.results123, go_sem, d0, d1, g0, g1, hl, hl1]) rfl ⟨p, _, B, m, d, hkeys, rfl, ?_, ?_, ?_⟩
  · exact OwnL.mono ((((r.setBox (by omega)).setBox (by omega)).alloc _).alloc _) (by omega) (by simp; omega) (Nat.le_refl _)
  · exact ((((hC3.below b4).setFar (by omega) hlt).setFar (by omega) hlt).alloc _).alloc _
  · exact ((((((Only.alloc w _).trans (ho1.trans (ho2.trans ho3))).trans (Only.of_below b4)).setNew (Nat.le_refl _)).setNew (Nat.le_refl _)).trans (Only.alloc _ _)).trans (Only.alloc _ _)
/-- Keys are drawn out of bytes. -/
def KeysD (w : World) (e : Ending) (w' : World) : Prop := ∃ (p : Nat) (al : List Int) (B : Option Addr) (m d : Nat), keysOk p al = true ∧ e = .returned (.agg #[.int .i64 p, .slice B m d]) ∧ OwnL w' w.heap.size w'.heap.size [(.slice B m d, .ints al)] ∧ Below w.heap.size w w'
set_option maxRecDepth 100000 in
theorem DrawKeys_any (n c : Nat) (A : Option Addr) (w : World) (ht : Bts w A n) :
    Calls Try.prog 70 #[.slice A n c] w (KeysD w) := by
  go_enter Try.func70, Try.ntmps70
  go_wp2_with fail
  refine (l01New_any n c A _ (ht.keep fun _ a _ ha => Below.heap_alloc _ _ _ ha)).mono ?_
  rintro e w1 ⟨g, hg, rfl, hC, hb1⟩
  go_wp2_with fail
  refine (l23Keys_any g n c A _ hC).mono ?_
  rintro e w2 ⟨p, al, B, m, d, hk, rfl, r, hC2, ho2⟩
  simp only [World.size_alloc] at hg
  have hz1 := hb1.size
  have hz2 := ho2.size
  simp only [World.size_alloc] at hz1
  have hx2 : Box w2 w.heap.size #[.int .i64 0, .slice none 0 0] 33 := ((Box.new w _ _ rfl).below hb1 (by simp)).only ho2 (by simp; omega)
  have hB1 : Below w.heap.size w w1 := Below.trans ((Below.refl _ _).alloc (Nat.le_refl _) _) (hb1.mono (by simp))
  have hB2 : Below w.heap.size w w2 := Only.below hB1 (by omega) (by omega) ho2
  obtain ⟨d0, d1, g0, g1⟩ := hx2.two
  go_wp2
  refine bodyPost_ret (v := .agg #[.int .i64 p, .slice B m d]) (by simp [results, Try.results70, go_sem, d0, d1, g0, g1]) rfl ⟨p, al, B, m, d, hk, rfl, ?_, ?_⟩
  · exact OwnL.mono ((r.setBox (by omega)).setBox (by omega)) (by omega) (by simp) (Nat.le_refl _)
  · repeat (with_reducible (first | assumption | exact Below.refl _ _ | refine Below.alloc ?_ (by first | omega | (simp; done) | (simp; omega)) _ | refine Below.setCell ?_ (by first | omega | (simp; done) | (simp; omega)) _ | refine Below.drew ?_ | refine below_drewN ?_ _))
end Go.Proofs.Ytllnnbmgdbinnaa

/- Slices of slices of numbers: the statements' helpers szIntSS, markIntSS, heldIntSS. -/
import Derived.Test.YtodnahpegecpiaaGrid2
namespace Go.Proofs.Ytodnahpegecpiaa
set_option linter.unusedSimpArgs false
set_option linter.unusedVariables false
open Go.RowKit
/-- The numbers of the first k slices, counted. -/
def sumLen (ll : List (List Int)) (k : Nat) : Nat := ((ll.take k).map List.length).sum
theorem sumLen_zero (ll : List (List Int)) : sumLen ll 0 = 0 := by simp [sumLen]
theorem sumLen_succ {ll : List (List Int)} {k : Nat} (h : k < ll.length) : sumLen ll (k + 1) = sumLen ll k + (ll.getD k []).length := by
  unfold sumLen
  rw [List.take_succ_eq_append_getElem h, List.map_append, List.sum_append]
  simp [List.getD, h]
theorem sumLen_mono {ll : List (List Int)} {j k : Nat} (h : j ≤ k) (hk : k ≤ ll.length) : sumLen ll j ≤ sumLen ll k := by
  induction k with
  | zero => have : j = 0 := by omega
            subst this; exact Nat.le_refl _
  | succ k ih =>
    by_cases e : j = k + 1
    · subst e; exact Nat.le_refl _
    · have := ih (by omega) (by omega)
      rw [sumLen_succ (by omega)]; omega
theorem sumLen_at {ll : List (List Int)} (j : Nat) : (ll.getD j []).length ≤ sumLen ll ll.length := by
  by_cases h : j < ll.length
  · have h1 := sumLen_succ h
    have h2 := sumLen_mono (ll := ll) (j := j + 1) (k := ll.length) (by omega) (Nat.le_refl _)
    omega
  · simp [List.getD, h]
/-- The count of a slice of slices, its own slices' headers with it. -/
def totLL (ll : List (List Int)) : Nat := ll.length + sumLen ll ll.length
theorem totLL_outer {ll : List (List Int)} (h : totLL ll ≤ 1048576) : ll.length ≤ 1048576 := by unfold totLL at h; omega
theorem totLL_inner {ll : List (List Int)} (h : totLL ll ≤ 1048576) (j : Nat) : (ll.getD j []).length ≤ 1048576 := by have := sumLen_at (ll := ll) j; unfold totLL at h; omega
/-- Bounds of a slice of slices. -/
def BdLL (ll : List (List Int)) : Prop := ll.length ≤ 1048576 ∧ (∀ j, (ll.getD j []).length ≤ 1048576) ∧ sumLen ll ll.length ≤ 4194304
theorem totLL_bd {ll : List (List Int)} (h : totLL ll ≤ 1048576) : BdLL ll := ⟨totLL_outer h, totLL_inner h, by unfold totLL at h; omega⟩
/-- A slice of slices among the arguments, of whatever lengths. -/
def RdGr0 (w : World) (v : Value) (ll : List (List Int)) : Prop := RdGr w v ll ∧ ll.length ≤ maxLen ∧ ∀ j, (ll.getD j []).length ≤ maxLen
theorem RdGr0.rd {w : World} {v : Value} {ll : List (List Int)} (h : RdGr0 w v ll) : RdGr w v ll := h.1
theorem RdGr0.below {w w' : World} {v : Value} {ll : List (List Int)} (h : RdGr0 w v ll) (hb : Below w.heap.size w w') : RdGr0 w' v ll := ⟨h.1.below hb, h.2⟩
theorem RdGr0.b {w w' : World} {v : Value} {ll : List (List Int)} (h : RdGr0 w v ll) (hb : Below w.heap.size w w' := by repeat (with_reducible (first | assumption | exact Below.refl _ _ | refine Below.alloc ?_ (by first | omega | (simp; done) | (simp; omega)) _ | refine Below.setCell ?_ (by first | omega | (simp; done) | (simp; omega)) _ | refine Below.drew ?_ | refine below_drewN ?_ _))) : RdGr0 w' v ll := h.below hb
theorem RdGr0.form {w : World} {v : Value} {ll : List (List Int)} (h : RdGr0 w v ll) : ∃ A n c, v = .slice A n c ∧ ll.length = n := by
  obtain ⟨us, e, ⟨A, n, c, e2, hV⟩, hr⟩ := h.1
  exact ⟨A, n, c, e2, by rw [← e]; exact hV.1⟩
theorem Rd.rd0 {w : World} {v : Value} {l : List Int} (h : Rd w v l) (hm : l.length ≤ maxLen) : Rd0 w v l := by
  obtain ⟨A, n, c, e, hI⟩ := h
  exact ⟨A, n, c, e, by rw [← hI.len]; exact hm, hI⟩
def szLL (left : Nat) (ll : List (List Int)) : Int := if totLL ll ≤ left then ((left - totLL ll : Nat) : Int) else -1
theorem szLL_yes {left : Nat} {ll : List (List Int)} (h : totLL ll ≤ left) : szLL left ll = ((left - totLL ll : Nat) : Int) := if_pos h
theorem szLL_no {left : Nat} {ll : List (List Int)} (h : ¬ totLL ll ≤ left) : szLL left ll = -1 := if_neg h
set_option maxRecDepth 100000 in
theorem szIntSS_any (A : Option Addr) (n c : Nat) (ll : List (List Int)) (w : World) (h : RdGr0 w (.slice A n c) ll) (left : Nat) (hleft : left ≤ 1048576) :
    Calls Try.prog 39 #[.slice A n c, .int .i64 left] w fun e w' => e = .returned (.int .i64 (szLL left ll)) ∧ Below w.heap.size w w' := by
  have hl := Lib.hid h.1.len
  have hn : n ≤ maxLen := by rw [← hl.out]; exact h.2.1
  unfold maxLen at hn
  by_cases h0 : n ≤ left
  · go_enter Try.func39, Try.ntmps39
    have hm : (0 : Int) ≤ (left : Int) - (n : Int) := by omega
    go_wp2_with fail
    go_loopw [1, 5] (fun q i wr => ∃ k x : Nat, k ≤ n ∧ i = .int .i64 k ∧ q = .int .i64 x ∧ Hid (n + sumLen ll k + x = left) ∧ Below w.heap.size w wr) (fun _ i _ => n - (intOf i).toNat)
    case atStart => exact ⟨0, left - n, by omega, rfl, by go_num, by show _ = _; rw [sumLen_zero]; omega, Below.refl _ _⟩
    case round =>
      obtain ⟨k, x, hk, rfl, rfl, HX, B9⟩ := hrel
      have hx : x ≤ 1048576 := by have := HX.out; omega
      have hll := hl.out
      by_cases hlt : k < n
      · obtain ⟨g, o, u, rfl, hg, hc, hr, _⟩ := h.1.at hlt
        have hck : wr.cell? ⟨g, o + k, none⟩ = some u := (B9.cell hg).trans hc
        have hr0 := (hr.rd0 (h.2.2 k)).below B9
        have hs := Lib.hid (sumLen_succ (ll := ll) (k := k) (by omega))
        generalize ll.getD k [] = rk at hr0 hs
        by_cases hy : rk.length ≤ x
        · have hy' : (0 : Int) ≤ ((x - rk.length : Nat) : Int) := by omega
          clear hll
          go_wp2_with fail
          refine (szIntS_yes hr0 x _ rfl hx hy).mono ?_
          rintro e w2 ⟨rfl, b2⟩
          go_wp2
          have z9 := B9.size
          go_roundw
          case rel => exact ⟨k + 1, x - rk.length, by omega, by go_num, rfl, by show _ = _; rw [hs.out]; have := HX.out; omega, B9.trans (b2.mono z9)⟩
          case measure => simp [intOf]; omega
        · have hN : Hid (¬ totLL ll ≤ left) := by
            show ¬ _
            have h2 := sumLen_mono (ll := ll) (j := k + 1) (k := ll.length) (by omega) (Nat.le_refl _)
            have h3 := hs.out
            have h4 := HX.out
            unfold totLL; omega
          clear hll
          go_wp2_with fail
          refine (szIntS_no hr0 x _ rfl hx hy).mono ?_
          rintro e w2 ⟨rfl, b2⟩
          go_wp2
          go_ret
          rw [szLL_no hN.out]
          exact ⟨rfl, B9.trans (b2.mono B9.size)⟩
      · have hY : Hid (totLL ll ≤ left ∧ left - totLL ll = x) := by
          show _ ∧ _
          have h4 := HX.out
          have : k = ll.length := by omega
          subst this
          unfold totLL; omega
        clear hll
        go_wp2
        go_ret
        rw [szLL_yes hY.out.1, hY.out.2]
        exact ⟨rfl, B9⟩
  · have hN : Hid (¬ totLL ll ≤ left) := by
      show ¬ _
      have := hl.out
      unfold totLL; omega
    have hm : (left : Int) - (n : Int) < 0 := by omega
    go_enter Try.func39, Try.ntmps39
    go_wp2
    go_ret
    rw [szLL_no hN.out]
    exact ⟨rfl, Below.refl _ _⟩
theorem szIntSS_yes {v : Value} {ll : List (List Int)} {w : World} (h : RdGr0 w v ll) (left : Nat) (K : Int) (hK : K = left) (hleft : left ≤ 1048576) (hle : totLL ll ≤ left) :
    Calls Try.prog 39 #[v, .int .i64 K] w fun e w' => e = .returned (.int .i64 ((left - totLL ll : Nat) : Int)) ∧ Below w.heap.size w w' := by
  obtain ⟨us, e, ⟨A, n, c, rfl, hV⟩, hr⟩ := id h.1
  subst hK
  have := szIntSS_any A n c ll w h left hleft
  rwa [szLL_yes hle] at this
theorem szIntSS_no {v : Value} {ll : List (List Int)} {w : World} (h : RdGr0 w v ll) (left : Nat) (K : Int) (hK : K = left) (hleft : left ≤ 1048576) (hle : ¬ totLL ll ≤ left) :
    Calls Try.prog 39 #[v, .int .i64 K] w fun e w' => e = .returned (.int .i64 (-1)) ∧ Below w.heap.size w w' := by
  obtain ⟨us, e, ⟨A, n, c, rfl, hV⟩, hr⟩ := id h.1
  subst hK
  have := szIntSS_any A n c ll w h left hleft
  rwa [szLL_no hle] at this
/-- What marking leaves: all numbers count on; mixLL: the first k slices are marked. -/
def mixLL (k0 : Nat) (ll : List (List Int)) (k : Nat) : List (List Int) := (List.range ll.length).map fun j => if j < k then seqL (k0 + sumLen ll j) (ll.getD j []).length else ll.getD j []
def seqLL (k0 : Nat) (ll : List (List Int)) : List (List Int) := mixLL k0 ll ll.length
theorem mixLL_len (k0 : Nat) (ll : List (List Int)) (k : Nat) : (mixLL k0 ll k).length = ll.length := by simp [mixLL]
theorem seqLL_len (k0 : Nat) (ll : List (List Int)) : (seqLL k0 ll).length = ll.length := mixLL_len _ _ _
theorem mixLL_at {k0 : Nat} {ll : List (List Int)} {k j : Nat} (h : j < ll.length) : (mixLL k0 ll k).getD j [] = if j < k then seqL (k0 + sumLen ll j) (ll.getD j []).length else ll.getD j [] := by
  simp [mixLL, List.getD, h]
theorem mixLL_zero (k0 : Nat) (ll : List (List Int)) : mixLL k0 ll 0 = ll := by
  refine List.ext_getElem (by simp [mixLL]) ?_
  intro i h1 h2
  simp [mixLL, List.getD, h2]
theorem mixLL_set {k0 : Nat} {ll : List (List Int)} {k : Nat} (h : k < ll.length) : (mixLL k0 ll k).set k (seqL (k0 + sumLen ll k) (ll.getD k []).length) = mixLL k0 ll (k + 1) := by
  refine List.ext_getElem (by simp [mixLL]) ?_
  intro i h1 h2
  rw [List.getElem_set]
  have hi : i < ll.length := by rw [mixLL_len] at h2; exact h2
  by_cases e : k = i
  · subst e; simp [mixLL, List.getD, hi]
  · rw [if_neg e]
    simp only [mixLL, List.getElem_map, List.getElem_range]
    by_cases h3 : i < k
    · rw [if_pos h3, if_pos (by omega)]
    · rw [if_neg h3, if_neg (by omega)]
theorem seqLL_inner {k0 : Nat} {ll : List (List Int)} (j : Nat) : ((seqLL k0 ll).getD j []).length = (ll.getD j []).length := by
  by_cases h : j < ll.length
  · rw [seqLL, mixLL_at h, if_pos h, seqL_len]
  · simp [List.getD, h, seqLL_len]
theorem zip_split {us : List Value} {mm : List (List Int)} {k : Nat} (e : us.length = mm.length) (hk : k < mm.length) (u : Value) (hu : us[k]? = some u) (x : List Int) :
    gridL (.slice none 0 0) us mm = ((.slice none 0 0, .rows us) :: (List.zip us (mm.map Dat.ints)).take k) ++ (u, .ints (mm.getD k [])) :: (List.zip us (mm.map Dat.ints)).drop (k + 1) ∧
    gridL (.slice none 0 0) us (mm.set k x) = ((.slice none 0 0, .rows us) :: (List.zip us (mm.map Dat.ints)).take k) ++ (u, .ints x) :: (List.zip us (mm.map Dat.ints)).drop (k + 1) := by
  have hz : (List.zip us (mm.map Dat.ints)).length = mm.length := by simp; omega
  have hk2 : k < us.length := by omega
  have hu2 : us[k] = u := by rw [List.getElem?_eq_getElem hk2] at hu; exact Option.some.inj hu
  have hget : (List.zip us (mm.map Dat.ints))[k]'(by omega) = (u, Dat.ints (mm.getD k [])) := by
    simp [List.getD, hk, hu2]
  have e1 : List.zip us (mm.map Dat.ints) = (List.zip us (mm.map Dat.ints)).take k ++ (u, Dat.ints (mm.getD k [])) :: (List.zip us (mm.map Dat.ints)).drop (k + 1) := by
    rw [← hget]
    conv => lhs; rw [← List.take_append_drop k (List.zip us (mm.map Dat.ints))]
    rw [List.drop_eq_getElem_cons (by omega)]
  have e2 : List.zip us ((mm.set k x).map Dat.ints) = (List.zip us (mm.map Dat.ints)).set k (u, Dat.ints x) := by
    refine List.ext_getElem (by simp) ?_
    intro i h1 h2
    rw [List.getElem_set]
    by_cases hik : k = i
    · subst hik; simp [hu2]
    · simp [List.getElem_set, hik]
  constructor
  · unfold gridL
    rw [List.cons_append, ← e1]
  · unfold gridL
    rw [List.cons_append, e2, List.set_eq_take_append_cons_drop, if_pos (by omega)]
theorem grid_split {v : Value} {us : List Value} {mm : List (List Int)} {k : Nat} (e : us.length = mm.length) (hk : k < mm.length) (u : Value) (hu : us[k]? = some u) (x : List Int) :
    gridL v us mm = ((v, .rows us) :: (List.zip us (mm.map Dat.ints)).take k) ++ (u, .ints (mm.getD k [])) :: (List.zip us (mm.map Dat.ints)).drop (k + 1) ∧
    gridL v us (mm.set k x) = ((v, .rows us) :: (List.zip us (mm.map Dat.ints)).take k) ++ (u, .ints x) :: (List.zip us (mm.map Dat.ints)).drop (k + 1) := by
  have := zip_split e hk u hu x
  unfold gridL at this ⊢
  simpa using this
/-- A slice of the own grid is read at its place. -/
theorem OwnG.at {w : World} {lo hi : Nat} {A : Option Addr} {n c : Nat} {mm : List (List Int)} (h : OwnG w lo hi (.slice A n c) mm) {k : Nat} (hk : k < n) :
    ∃ g o u pre post, A = some ⟨g, o, none⟩ ∧ w.cell? ⟨g, o + k, none⟩ = some u ∧ OwnL w lo hi (pre ++ (u, .ints (mm.getD k [])) :: post) ∧
      ∀ w' x, OwnL w' lo hi (pre ++ (u, .ints x) :: post) → OwnG w' lo hi (.slice A n c) (mm.set k x) := by
  obtain ⟨us, e, h⟩ := h
  have hr := h.rd (.slice A n c, .rows us) (by simp [gridL])
  obtain ⟨A', n', c', e2, hV⟩ := hr
  cases e2
  have hl := hV.1
  obtain ⟨g, o, e3, hc⟩ := hV.2 (by omega)
  obtain ⟨u, h1, h2⟩ := hc k hk
  refine ⟨g, o, u, _, _, e3, h2, by rw [← (grid_split e (by omega) u h1 []).1]; exact h, ?_⟩
  intro w' x hx
  refine ⟨us, by rw [List.length_set]; exact e, ?_⟩
  rw [(grid_split e (by omega) u h1 x).2]
  exact hx
theorem OwnG.form {w : World} {lo hi : Nat} {v : Value} {mm : List (List Int)} (h : OwnG w lo hi v mm) : ∃ A n c, v = .slice A n c ∧ mm.length = n := by
  obtain ⟨us, e, h⟩ := h
  obtain ⟨A, n, c, e2, hV⟩ := h.rd (v, .rows us) (by simp [gridL])
  exact ⟨A, n, c, e2, by rw [← e]; exact hV.1⟩
theorem OwnG.lo {w : World} {lo hi : Nat} {v : Value} {mm : List (List Int)} (h : OwnG w lo hi v mm) : lo ≤ hi ∧ hi ≤ w.heap.size := by
  obtain ⟨us, e, h⟩ := h; exact ⟨h.1, h.2.1⟩
set_option maxRecDepth 100000 in
theorem markIntSS_any (lo hi : Nat) (A : Option Addr) (n c k0 : Nat) (ll : List (List Int)) (w : World) (h : OwnG w lo hi (.slice A n c) ll) (hb : BdLL ll) (hk0 : k0 ≤ 100000000) :
    Calls Try.prog 44 #[.slice A n c, .int .i64 k0] w fun e w' => e = .returned (.int .i64 ((k0 + sumLen ll ll.length : Nat) : Int)) ∧ OwnG w' lo hi (.slice A n c) (seqLL k0 ll) ∧ Chg lo hi w w' := by
  have hl : Hid (ll.length = n) := by
    obtain ⟨A', n', c', e, hl⟩ := h.form
    cases e; exact hl
  obtain ⟨hn, hin, hm⟩ := hb
  have hn' : n ≤ 1048576 := by rw [← hl.out]; exact hn
  go_enter Try.func44, Try.ntmps44
  go_wp2_with fail
  go_loopw [1, 5] (fun q i wr => ∃ k : Nat, k ≤ n ∧ i = .int .i64 k ∧ q = .int .i64 ((k0 + sumLen ll k : Nat) : Int) ∧ OwnG wr lo hi (.slice A n c) (mixLL k0 ll k) ∧ Chg lo hi w wr) (fun _ i _ => n - (intOf i).toNat)
  case atStart => exact ⟨0, by omega, rfl, by rw [sumLen_zero]; rfl, by rw [mixLL_zero]; exact h, Chg.refl _ _ _⟩
  case round =>
    obtain ⟨k, hk, rfl, rfl, G, C9⟩ := hrel
    by_cases hlt : k < n
    · have hkl : Hid (k < ll.length) := by show _ < _; rw [hl.out]; exact hlt
      obtain ⟨g, o, u, pre, post, rfl, hc, R, hback⟩ := G.at hlt
      have hmx := Lib.hid (mixLL_at (k0 := k0) (k := k) hkl.out)
      have hs := Lib.hid (sumLen_succ hkl.out)
      have hle : k0 + sumLen ll k ≤ 1000000000000 := by
        have := sumLen_mono (ll := ll) (j := k) (k := ll.length) (by have := hkl.out; omega) (Nat.le_refl _)
        omega
      have hle2 : (ll.getD k []).length ≤ 1048576 := hin k
      rw [hmx.out, if_neg (Nat.lt_irrefl k)] at R
      have hset := Lib.hid (mixLL_set (k0 := k0) hkl.out)
      clear hmx
      generalize ll.getD k [] = rk at R hs hle2 hset
      go_wp2_with fail
      refine (markIntS_L (pre := pre) (post := post) (k0 + sumLen ll k) _ R rfl hle hle2).mono ?_
      rintro e w2 ⟨rfl, R2, c2⟩
      have G2 := hback w2 _ R2
      rw [hset.out] at G2
      go_wp2
      go_roundw
      case rel => exact ⟨k + 1, by omega, by go_num, by rw [hs.out]; congr 2; omega, G2, C9.trans c2⟩
      case measure => simp [intOf]; omega
    · have hkn : k = ll.length := by have := hl.out; omega
      have HK := Lib.hid hkn
      clear hkn
      go_wp2
      go_ret
      rw [HK.out] at G ⊢
      exact ⟨rfl, G, C9⟩
theorem markIntSS_L {lo hi : Nat} {v : Value} {ll : List (List Int)} {w : World} (k0 : Nat) (K : Int) (h : OwnG w lo hi v ll) (hK : K = k0) (hk : k0 ≤ 100000000) (ht : BdLL ll) :
    Calls Try.prog 44 #[v, .int .i64 K] w fun e w' => e = .returned (.int .i64 ((k0 + sumLen ll ll.length : Nat) : Int)) ∧ OwnG w' lo hi v (seqLL k0 ll) ∧ Chg lo hi w w' := by
  obtain ⟨A, n, c, rfl, _⟩ := h.form
  subst hK
  exact markIntSS_any lo hi A n c k0 ll w h ht hk
set_option maxRecDepth 100000 in
theorem heldIntSS_any (A : Option Addr) (n c k0 : Nat) (ll : List (List Int)) (w : World) (h : RdGr w (.slice A n c) (seqLL k0 ll)) (hb : BdLL ll) (hk0 : k0 ≤ 100000000) :
    Calls Try.prog 76 #[.slice A n c, .int .i64 k0] w fun e w' => e = .returned (.int .i64 ((k0 + sumLen ll ll.length : Nat) : Int)) ∧ w = w' := by
  have hl : Hid (ll.length = n) := by show _ = _; rw [← seqLL_len k0 ll]; exact h.len
  obtain ⟨hn, hin, hm⟩ := hb
  have hn' : n ≤ 1048576 := by rw [← hl.out]; exact hn
  go_enter Try.func76, Try.ntmps76
  go_wp2_with fail
  go_loop [1, 5] (fun q i => ∃ k : Nat, k ≤ n ∧ i = .int .i64 k ∧ q = .int .i64 ((k0 + sumLen ll k : Nat) : Int)) (fun _ i => n - (intOf i).toNat)
  case atStart => exact ⟨0, by omega, rfl, by rw [sumLen_zero]; rfl⟩
  case round =>
    obtain ⟨k, hk, rfl, rfl⟩ := hrel
    by_cases hlt : k < n
    · have hkl : Hid (k < ll.length) := by show _ < _; rw [hl.out]; exact hlt
      obtain ⟨g, o, u, rfl, hg, hc, hr, _⟩ := h.at hlt
      have hs := Lib.hid (sumLen_succ hkl.out)
      have hle : k0 + sumLen ll k ≤ 1000000000000 := by
        have := sumLen_mono (ll := ll) (j := k) (k := ll.length) (by have := hkl.out; omega) (Nat.le_refl _)
        omega
      have hle2 : (ll.getD k []).length ≤ 1048576 := hin k
      rw [seqLL, mixLL_at hkl.out, if_pos hkl.out] at hr
      generalize ll.getD k [] = rk at hr hs hle2
      go_wp2_with fail
      refine (heldIntS_L rk.length (k0 + sumLen ll k) _ (RdL.one hr) rfl hle hle2).mono ?_
      rintro e w2 ⟨rfl, rfl⟩
      go_wp2
      go_round
      case rel => exact ⟨k + 1, by omega, by go_num, by rw [hs.out]; congr 2; omega⟩
      case measure => simp [intOf]; omega
    · have hkn : k = ll.length := by have := hl.out; omega
      have HK := Lib.hid hkn
      clear hkn
      go_wp2
      go_ret
      rw [HK.out]
      exact ⟨rfl, rfl⟩
theorem heldIntSS_L {v : Value} {w : World} (ll : List (List Int)) (k0 : Nat) (K : Int) (h : RdGr w v (seqLL k0 ll)) (hK : K = k0) (hk : k0 ≤ 100000000) (ht : BdLL ll) :
    Calls Try.prog 76 #[v, .int .i64 K] w fun e w' => e = .returned (.int .i64 ((k0 + sumLen ll ll.length : Nat) : Int)) ∧ w = w' := by
  obtain ⟨us, e, ⟨A, n, c, rfl, hV⟩, hr⟩ := id h
  subst hK
  exact heldIntSS_any A n c k0 ll w h ht hk
end Go.Proofs.Ytodnahpegecpiaa

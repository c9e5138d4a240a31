/- Contracts of DecodeSafe. Printed by mac2.py. -/
import Derived.Test.YtodnahpegecpiaaGrid3
import Derived.Test.YtodnahpegecpiaaLok
namespace Go.Proofs.Ytodnahpegecpiaa
set_option linter.unusedSimpArgs false
set_option linter.unusedVariables false
open Go.RowKit
/-- One label of DecodeSafe: its hashes are two and it is a label; one of the hashes is its own. -/
def dsA (hh : List (List Int)) (ls : List Int) (k : Nat) : Bool := decide ((hh.getD k []).length = 2) && decide (0 ≤ hashI (nth ls k) 999999)
def dsM (hh : List (List Int)) (ls : List Int) (k : Nat) : Bool := (nth (hh.getD k []) 0 == hashI (nth ls k) 999999) || (nth (hh.getD k []) 1 == hashI (nth ls k) 999999)
def dsF (hh : List (List Int)) (ls : List Int) (k : Nat) : Int := if nth (hh.getD k []) 0 = hashI (nth ls k) 999999 then 0 else 1
def dsOk (hh : List (List Int)) (ls : List Int) : Bool := decide (hh.length = ls.length) && (List.range ls.length).all fun k => dsA hh ls k && dsM hh ls k
def dsO (hh : List (List Int)) (ls : List Int) : List Int := if dsOk hh ls then genL (dsF hh ls) ls.length else []
theorem dsO_yes {hh : List (List Int)} {ls : List Int} (h : dsOk hh ls = true) : dsO hh ls = genL (dsF hh ls) ls.length := by simp [dsO, h]
theorem dsO_no {hh : List (List Int)} {ls : List Int} (h : dsOk hh ls = false) : dsO hh ls = [] := by simp [dsO, h]
theorem dsO_len (hh : List (List Int)) (ls : List Int) : (dsO hh ls).length ≤ ls.length := by unfold dsO; split <;> simp [genL_len]
theorem dsOk_len {hh : List (List Int)} {ls : List Int} (h : hh.length ≠ ls.length) : dsOk hh ls = false := by simp [dsOk, h]
theorem dsOk_at {hh : List (List Int)} {ls : List Int} {k : Nat} (hk : k < ls.length) (h : (dsA hh ls k && dsM hh ls k) = false) : dsOk hh ls = false := by
  unfold dsOk
  rw [Bool.and_eq_false_iff]
  right
  rw [Bool.eq_false_iff]
  intro ha
  have := List.all_eq_true.1 ha k (List.mem_range.2 hk)
  rw [h] at this; cases this
theorem dsOk_all {hh : List (List Int)} {ls : List Int} (hl : hh.length = ls.length) (h : ∀ k, k < ls.length → dsA hh ls k = true ∧ dsM hh ls k = true) : dsOk hh ls = true := by
  unfold dsOk
  rw [Bool.and_eq_true]
  refine ⟨by simpa using hl, List.all_eq_true.2 fun k hk => ?_⟩
  obtain ⟨h1, h2⟩ := h k (List.mem_range.1 hk)
  rw [h1, h2]; rfl
theorem ds_lab (x : Int) : (0 ≤ hashI x 999999) ↔ lab x = true := by
  unfold hashI
  rw [show inB 999999 0 1000000 = true by rfl, Bool.and_true]
  cases lab x
  · simp
  · simp; have := keyedI_bd 77 999999 x; omega
set_option maxRecDepth 100000 in
set_option maxHeartbeats 1000000 in
theorem sDecodeSafe_L {hA0 : Option Addr} {hn0 hc0 : Nat} {hL0 : List (List Int)} {yA0 : Option Addr} {yn0 yc0 : Nat} {yL0 : List Int} {w : World} (hH : RdGr w (.slice hA0 hn0 hc0) hL0) (hL0n : totLL hL0 ≤ 1048576) (yH : RdL w [(.slice yA0 yn0 yc0, .ints yL0)]) (yL0n : yL0.length ≤ 1048576) :
    Calls Try.prog 40 #[.slice hA0 hn0 hc0, .slice yA0 yn0 yc0] w fun e w' => ∃ rA0 rn0 rc0, e = .returned (.tuple #[.slice rA0 rn0 rc0, .bool (dsOk hL0 yL0)]) ∧ OwnL w' w.heap.size w'.heap.size [(.slice rA0 rn0 rc0, .ints (dsO hL0 yL0))] ∧ Below w.heap.size w w' := by
  obtain ⟨_, _, _, e, HY⟩ := yH.ints
  cases e
  have HL := Lib.hid HY.len
  have HN := Lib.hid hH.len
  have hyn : yn0 ≤ 1048576 := by rw [← HL.out]; exact yL0n
  have HY := Lib.hid HY
  by_cases hnm : hn0 = yn0
  · subst hnm
    go_enter Try.func40, Try.ntmps40
    go_wp2_with fail
    generalize hw1 : World.alloc _ _ = w1
    have z1 : w.heap.size + 1 ≤ w1.heap.size := by rw [← hw1]; simp
    have B1 : Below w.heap.size w w1 := by rw [← hw1]; repeat (with_reducible (first | assumption | exact Below.refl _ _ | refine Below.alloc ?_ (by first | omega | (simp; done) | (simp; omega)) _ | refine Below.setCell ?_ (by first | omega | (simp; done) | (simp; omega)) _ | refine Below.drew ?_ | refine below_drewN ?_ _))
    have xo_ : Box w1 (w.heap.size) #[] 3 := (by rw [← hw1]; exact (Box.new (g := w.heap.size) _ #[] 3 (by simp)))
    have xo := xo_; clear xo_
    clear hw1
    have ro := OwnL.lit0 xo
    go_loopw [6, 7] (fun v i wr => ∃ (k : Nat) (A : Option Addr) (n c : Nat), k ≤ hn0 ∧ i = .int .i64 k ∧ v = .slice A n c ∧ Hid (OwnL wr w.heap.size wr.heap.size [(.slice A n c, .ints (genL (dsF hL0 yL0) k))]) ∧ Hid (∀ j, j < k → (dsA hL0 yL0 j && dsM hL0 yL0 j) = true) ∧ Below w.heap.size w wr) (fun v i wr => hn0 - (intOf i).toNat)
    case atStart => exact ⟨0, _, _, _, by omega, rfl, rfl, OwnL.widen ro (by omega), fun j hj => absurd hj (by omega), B1⟩
    case round =>
      clear ro
      obtain ⟨k, vA, vn, vc, hk, rfl, rfl, ro, HG, B9⟩ := hrel
      obtain ⟨w9, hw9⟩ : ∃ x, x = wr := ⟨wr, rfl⟩
      subst hw9
      have ro := ro.out
      have hsn := Lib.hid (genL_snoc (dsF hL0 yL0) k)
      have hgl := Lib.hid (genL_len (dsF hL0 yL0) k)
      have z9 := B9.size
      by_cases hlt : k < hn0
      · obtain ⟨g, og, u, rfl, hg, hcg, hr, _⟩ := hH.at hlt
        obtain ⟨gy, oy, rfl, hgy, hcy⟩ := HY.out.block (by omega)
        have hcyk := hcy k hlt
        clear hcy
        obtain ⟨uA, un, uc, rfl, hU⟩ := hr
        have hul := Lib.hid hU.len
        have hkl : Hid (k < yL0.length) := by show _ < _; rw [HL.out]; exact hlt
        have HX : Hid (∃ X, X = hashI (nth yL0 k) 999999) := ⟨_, rfl⟩
        obtain ⟨X, HX⟩ := HX.out
        replace HX := Lib.hid HX
        by_cases e2 : un = 2
        · subst e2
          by_cases hX : 0 ≤ X
          · have hXn : ¬ X < 0 := by omega
            obtain ⟨gu, ou, rfl, hgu, hcu⟩ := hU.block (by omega)
            have hu0 := hcu 0 (by omega)
            have hu1 := hcu 1 (by omega)
            clear hcu
            simp only [Nat.add_zero] at hu0
            obtain ⟨r0, hr0⟩ : ∃ r, r = nth (hL0.getD k []) 0 := ⟨_, rfl⟩
            obtain ⟨r1, hr1⟩ : ∃ r, r = nth (hL0.getD k []) 1 := ⟨_, rfl⟩
            rw [← hr0] at hu0
            rw [← hr1] at hu1
            replace hr0 := Lib.hid hr0
            replace hr1 := Lib.hid hr1
            have hcg9 := (Below.cell (w := w) (by repeat (with_reducible (first | assumption | exact Below.refl _ _ | refine Below.alloc ?_ (by first | omega | (simp; done) | (simp; omega)) _ | refine Below.setCell ?_ (by first | omega | (simp; done) | (simp; omega)) _ | refine Below.drew ?_ | refine below_drewN ?_ _))) hg).trans hcg
            have l9_hcg : g < w9.heap.size := by omega
            have hcyk9 := (Below.cell (w := w) (by repeat (with_reducible (first | assumption | exact Below.refl _ _ | refine Below.alloc ?_ (by first | omega | (simp; done) | (simp; omega)) _ | refine Below.setCell ?_ (by first | omega | (simp; done) | (simp; omega)) _ | refine Below.drew ?_ | refine below_drewN ?_ _))) hgy).trans hcyk
            have l9_hcyk : gy < w9.heap.size := by omega
            have hu09 := (Below.cell (w := w) (by repeat (with_reducible (first | assumption | exact Below.refl _ _ | refine Below.alloc ?_ (by first | omega | (simp; done) | (simp; omega)) _ | refine Below.setCell ?_ (by first | omega | (simp; done) | (simp; omega)) _ | refine Below.drew ?_ | refine below_drewN ?_ _))) hgu).trans hu0
            have l9_hu0 : gu < w9.heap.size := by omega
            have hu19 := (Below.cell (w := w) (by repeat (with_reducible (first | assumption | exact Below.refl _ _ | refine Below.alloc ?_ (by first | omega | (simp; done) | (simp; omega)) _ | refine Below.setCell ?_ (by first | omega | (simp; done) | (simp; omega)) _ | refine Below.drew ?_ | refine below_drewN ?_ _))) hgu).trans hu1
            have l9_hu1 : gu < w9.heap.size := by omega
            have hA : Hid (dsA hL0 yL0 k = true) := by show _ = _; have h0 := hX; have h1 := hul.out; rw [HX.out] at h0; simp [dsA, h0]; simpa using h1
            cases t0 : (r0 == X) with
            | true =>
              have hF : Hid (dsF hL0 yL0 k = 0) := by show _ = _; have e0 : r0 = X := (by simp at t0; omega); unfold dsF; rw [← hr0.out, ← HX.out]; exact if_pos e0
              have hM : Hid ((dsA hL0 yL0 k && dsM hL0 yL0 k) = true) := by show _ = _; have e0 : r0 = X := (by simp at t0; omega); rw [hA.out]; unfold dsM; rw [← hr0.out, ← HX.out, e0]; simp
              go_wp2_with fail
              refine (l20Hash_any _ _).mono ?_
              rintro e w_ ⟨rfl, rfl⟩
              rw [← HX.out]
              go_wp2_with (at_builtin; (refine append_N rfl _ _ rfl (0) _ rfl rfl ro (by first | rfl | simp) (by have := hgl.out; omega) ?_); intro qA qn qc w10 ro_ c10)
              have z10 := c10.size
              (try simp only [World.size_alloc, World.size_setCell, size_drew] at z10)
              have B10 : Below w.heap.size w w10 := Below.trans (b := _) (by repeat (with_reducible (first | assumption | exact Below.refl _ _ | refine Below.alloc ?_ (by first | omega | (simp; done) | (simp; omega)) _ | refine Below.setCell ?_ (by first | omega | (simp; done) | (simp; omega)) _ | refine Below.drew ?_ | refine below_drewN ?_ _))) (c10.below (by omega) (by first | omega | (simp [size_drew]; done) | (simp [size_drew]; omega)))
              clear ro; have ro := ro_; clear ro_
              rw [← hF.out] at ro
              go_wp2
              go_roundw
              case rel => exact ⟨k + 1, _, _, _, by omega, by go_num, rfl, by rw [hsn.out]; exact OwnL.widen ro (by omega), fun j hj => by
                  rcases Nat.lt_or_ge j k with h | h
                  · exact HG.out j h
                  · have : j = k := by omega
                    subst this; exact hM.out, B10⟩
              case measure => simp [intOf]; omega
            | false =>
              cases t1 : (r1 == X) with
              | true =>
                have hF : Hid (dsF hL0 yL0 k = 1) := by show _ = _; have e0 : r0 ≠ X := (by simp at t0; omega); unfold dsF; rw [← hr0.out, ← HX.out]; exact if_neg e0
                have hM : Hid ((dsA hL0 yL0 k && dsM hL0 yL0 k) = true) := by show _ = _; have e1 : r1 = X := (by simp at t1; omega); rw [hA.out]; unfold dsM; rw [← hr1.out, ← HX.out, e1]; simp
                go_wp2_with fail
                refine (l20Hash_any _ _).mono ?_
                rintro e w_ ⟨rfl, rfl⟩
                rw [← HX.out]
                go_wp2_with (at_builtin; (refine append_N rfl _ _ rfl (1) _ rfl rfl ro (by first | rfl | simp) (by have := hgl.out; omega) ?_); intro qA qn qc w10 ro_ c10)
                have z10 := c10.size
                (try simp only [World.size_alloc, World.size_setCell, size_drew] at z10)
                have B10 : Below w.heap.size w w10 := Below.trans (b := _) (by repeat (with_reducible (first | assumption | exact Below.refl _ _ | refine Below.alloc ?_ (by first | omega | (simp; done) | (simp; omega)) _ | refine Below.setCell ?_ (by first | omega | (simp; done) | (simp; omega)) _ | refine Below.drew ?_ | refine below_drewN ?_ _))) (c10.below (by omega) (by first | omega | (simp [size_drew]; done) | (simp [size_drew]; omega)))
                clear ro; have ro := ro_; clear ro_
                rw [← hF.out] at ro
                go_wp2
                go_roundw
                case rel => exact ⟨k + 1, _, _, _, by omega, by go_num, rfl, by rw [hsn.out]; exact OwnL.widen ro (by omega), fun j hj => by
                    rcases Nat.lt_or_ge j k with h | h
                    · exact HG.out j h
                    · have : j = k := by omega
                      subst this; exact hM.out, B10⟩
                case measure => simp [intOf]; omega
              | false =>
                have HO2 : Hid (dsOk hL0 yL0 = false) := dsOk_at hkl.out (by have e0 : r0 ≠ X := (by simp at t0; omega); have e1 : r1 ≠ X := (by simp at t1; omega); have : dsM hL0 yL0 k = false := (by unfold dsM; rw [← hr0.out, ← hr1.out, ← HX.out]; simp [e0, e1]); rw [this, Bool.and_false])
                go_wp2_with fail
                refine (l20Hash_any _ _).mono ?_
                rintro e w_ ⟨rfl, rfl⟩
                rw [← HX.out]
                go_wp2
                refine bodyPost_ret (v := .tuple #[.slice (some ⟨w9.heap.size, 0, none⟩) 0 0, .bool false]) (by simp [results, go_sem, Try.results40]) rfl ⟨_, _, _, by rw [HO2.out], ?_, ?_⟩
                · rw [dsO_no HO2.out]; exact OwnL.mono (OwnL.lit0 (Box.new (g := w9.heap.size) _ #[] 3 (by simp))) (by omega) (by first | omega | (simp [size_drew]; done) | (simp [size_drew]; omega)) (Nat.le_refl _)
                · repeat (with_reducible (first | assumption | exact Below.refl _ _ | refine Below.alloc ?_ (by first | omega | (simp; done) | (simp; omega)) _ | refine Below.setCell ?_ (by first | omega | (simp; done) | (simp; omega)) _ | refine Below.drew ?_ | refine below_drewN ?_ _))
          · have hXn : X < 0 := by omega
            have hcg9 := (Below.cell (w := w) (by repeat (with_reducible (first | assumption | exact Below.refl _ _ | refine Below.alloc ?_ (by first | omega | (simp; done) | (simp; omega)) _ | refine Below.setCell ?_ (by first | omega | (simp; done) | (simp; omega)) _ | refine Below.drew ?_ | refine below_drewN ?_ _))) hg).trans hcg
            have l9_hcg : g < w9.heap.size := by omega
            have hcyk9 := (Below.cell (w := w) (by repeat (with_reducible (first | assumption | exact Below.refl _ _ | refine Below.alloc ?_ (by first | omega | (simp; done) | (simp; omega)) _ | refine Below.setCell ?_ (by first | omega | (simp; done) | (simp; omega)) _ | refine Below.drew ?_ | refine below_drewN ?_ _))) hgy).trans hcyk
            have l9_hcyk : gy < w9.heap.size := by omega
            have HO2 : Hid (dsOk hL0 yL0 = false) := dsOk_at hkl.out (by have h0 := hX; rw [HX.out] at h0; simp [dsA, h0])
            go_wp2_with fail
            refine (l20Hash_any _ _).mono ?_
            rintro e w_ ⟨rfl, rfl⟩
            rw [← HX.out]
            go_wp2
            refine bodyPost_ret (v := .tuple #[.slice (some ⟨w9.heap.size, 0, none⟩) 0 0, .bool false]) (by simp [results, go_sem, Try.results40]) rfl ⟨_, _, _, by rw [HO2.out], ?_, ?_⟩
            · rw [dsO_no HO2.out]; exact OwnL.mono (OwnL.lit0 (Box.new (g := w9.heap.size) _ #[] 3 (by simp))) (by omega) (by first | omega | (simp [size_drew]; done) | (simp [size_drew]; omega)) (Nat.le_refl _)
            · repeat (with_reducible (first | assumption | exact Below.refl _ _ | refine Below.alloc ?_ (by first | omega | (simp; done) | (simp; omega)) _ | refine Below.setCell ?_ (by first | omega | (simp; done) | (simp; omega)) _ | refine Below.drew ?_ | refine below_drewN ?_ _))
        · have e2i : ¬ (un : Int) = 2 := by omega
          have hcg9 := (Below.cell (w := w) (by repeat (with_reducible (first | assumption | exact Below.refl _ _ | refine Below.alloc ?_ (by first | omega | (simp; done) | (simp; omega)) _ | refine Below.setCell ?_ (by first | omega | (simp; done) | (simp; omega)) _ | refine Below.drew ?_ | refine below_drewN ?_ _))) hg).trans hcg
          have l9_hcg : g < w9.heap.size := by omega
          have hcyk9 := (Below.cell (w := w) (by repeat (with_reducible (first | assumption | exact Below.refl _ _ | refine Below.alloc ?_ (by first | omega | (simp; done) | (simp; omega)) _ | refine Below.setCell ?_ (by first | omega | (simp; done) | (simp; omega)) _ | refine Below.drew ?_ | refine below_drewN ?_ _))) hgy).trans hcyk
          have l9_hcyk : gy < w9.heap.size := by omega
          have HO2 : Hid (dsOk hL0 yL0 = false) := dsOk_at hkl.out (by have h1 := hul.out; have : ¬ (hL0.getD k []).length = 2 := (by omega); simp [dsA, -List.getD_eq_getElem?_getD, this])
          go_wp2_with fail
          refine (l20Hash_any _ _).mono ?_
          rintro e w_ ⟨rfl, rfl⟩
          rw [← HX.out]
          go_wp2
          refine bodyPost_ret (v := .tuple #[.slice (some ⟨w9.heap.size, 0, none⟩) 0 0, .bool false]) (by simp [results, go_sem, Try.results40]) rfl ⟨_, _, _, by rw [HO2.out], ?_, ?_⟩
          · rw [dsO_no HO2.out]; exact OwnL.mono (OwnL.lit0 (Box.new (g := w9.heap.size) _ #[] 3 (by simp))) (by omega) (by first | omega | (simp [size_drew]; done) | (simp [size_drew]; omega)) (Nat.le_refl _)
          · repeat (with_reducible (first | assumption | exact Below.refl _ _ | refine Below.alloc ?_ (by first | omega | (simp; done) | (simp; omega)) _ | refine Below.setCell ?_ (by first | omega | (simp; done) | (simp; omega)) _ | refine Below.drew ?_ | refine below_drewN ?_ _))
      · have hkn : k = yL0.length := by have := HL.out; omega
        have HO2 : Hid (dsOk hL0 yL0 = true) := dsOk_all (by rw [HL.out]; exact HN.out) (fun j hj => and_true_of (HG.out j (by omega)))
        have HK := Lib.hid hkn
        clear hkn
        go_wp2
        refine bodyPost_ret (v := .tuple #[.slice vA vn vc, .bool true]) (by simp [results, go_sem, Try.results40]) rfl ⟨_, _, _, by rw [HO2.out], ?_, ?_⟩
        · rw [dsO_yes HO2.out, ← HK.out]; exact OwnL.widen ro (by omega)
        · repeat (with_reducible (first | assumption | exact Below.refl _ _ | refine Below.alloc ?_ (by first | omega | (simp; done) | (simp; omega)) _ | refine Below.setCell ?_ (by first | omega | (simp; done) | (simp; omega)) _ | refine Below.drew ?_ | refine below_drewN ?_ _))
  · have hnmi : ¬ (hn0 : Int) = (yn0 : Int) := by omega
    have HO2 : Hid (dsOk hL0 yL0 = false) := dsOk_len (by have := HL.out; have := HN.out; omega)
    go_enter Try.func40, Try.ntmps40
    go_wp2
    refine bodyPost_ret (v := .tuple #[.slice (some ⟨w.heap.size, 0, none⟩) 0 0, .bool false]) (by simp [results, go_sem, Try.results40]) rfl ⟨_, _, _, by rw [HO2.out], ?_, ?_⟩
    · rw [dsO_no HO2.out]; exact OwnL.mono (OwnL.lit0 (Box.new (g := w.heap.size) _ #[] 3 (by simp))) (by omega) (by first | omega | (simp [size_drew]; done) | (simp [size_drew]; omega)) (Nat.le_refl _)
    · repeat (with_reducible (first | assumption | exact Below.refl _ _ | refine Below.alloc ?_ (by first | omega | (simp; done) | (simp; omega)) _ | refine Below.setCell ?_ (by first | omega | (simp; done) | (simp; omega)) _ | refine Below.drew ?_ | refine below_drewN ?_ _))
set_option maxRecDepth 100000 in
set_option maxHeartbeats 1000000 in
theorem iDecodeSafe_L {hA0 : Option Addr} {hn0 hc0 : Nat} {hL0 : List (List Int)} {yA0 : Option Addr} {yn0 yc0 : Nat} {yL0 : List Int} {w : World} (hH : RdGr w (.slice hA0 hn0 hc0) hL0) (hL0n : totLL hL0 ≤ 1048576) (yH : RdL w [(.slice yA0 yn0 yc0, .ints yL0)]) (yL0n : yL0.length ≤ 1048576) :
    Calls Try.prog 42 #[.slice hA0 hn0 hc0, .slice yA0 yn0 yc0] w fun e w' => ∃ rA0 rn0 rc0, e = .returned (.tuple #[.slice rA0 rn0 rc0, .bool (dsOk hL0 yL0)]) ∧ OwnL w' w.heap.size w'.heap.size [(.slice rA0 rn0 rc0, .ints (dsO hL0 yL0))] ∧ Below w.heap.size w w' := by
  obtain ⟨_, _, _, e, HY⟩ := yH.ints
  cases e
  have HL := Lib.hid HY.len
  have HN := Lib.hid hH.len
  have hyn : yn0 ≤ 1048576 := by rw [← HL.out]; exact yL0n
  have HY := Lib.hid HY
  by_cases hnm : hn0 = yn0
  · subst hnm
    go_enter Try.func42, Try.ntmps42
    go_wp2_with fail
    go_loop [18] (fun i => ∃ k : Nat, k ≤ hn0 ∧ i = .int .i64 k ∧ Hid (∀ j, j < k → dsA hL0 yL0 j = true)) (fun i => hn0 - (intOf i).toNat)
    case atStart => exact ⟨0, by omega, rfl, fun j hj => absurd hj (by omega)⟩
    case round =>
      obtain ⟨k, hk, rfl, HG⟩ := hrel
      by_cases hlt : k < hn0
      · obtain ⟨g, og, u, rfl, hg, hcg, hr, _⟩ := hH.at hlt
        obtain ⟨gy, oy, rfl, hgy, hcy⟩ := HY.out.block (by omega)
        have hcyk := hcy k hlt
        clear hcy
        obtain ⟨uA, un, uc, rfl, hU⟩ := hr
        have hul := Lib.hid hU.len
        have hkl : Hid (k < yL0.length) := by show _ < _; rw [HL.out]; exact hlt
        have HX : Hid (∃ X, X = hashI (nth yL0 k) 999999) := ⟨_, rfl⟩
        obtain ⟨X, HX⟩ := HX.out
        replace HX := Lib.hid HX
        by_cases e2 : un = 2
        · subst e2
          cases t0 : lab (nth yL0 k) with
          | false =>
            have HO2 : Hid (dsOk hL0 yL0 = false) := dsOk_at hkl.out (by have := (not_congr (ds_lab (nth yL0 k))).2 (by rw [t0]; simp); simp [dsA, this])
            go_wp2_with fail
            refine (iIsLabel_any _ _).mono ?_
            rintro e w_ ⟨rfl, rfl⟩
            rw [t0]
            go_wp2
            refine bodyPost_ret (v := .tuple #[.slice none 0 0, .bool false]) (by simp [results, go_sem, Try.results42]) rfl ⟨none, 0, 0, by rw [HO2.out], ?_, ?_⟩
            · rw [dsO_no HO2.out]; exact OwnL.nones _ (by simp) (by first | omega | (simp [size_drew]; done) | (simp [size_drew]; omega))
            · repeat (with_reducible (first | assumption | exact Below.refl _ _ | refine Below.alloc ?_ (by first | omega | (simp; done) | (simp; omega)) _ | refine Below.setCell ?_ (by first | omega | (simp; done) | (simp; omega)) _ | refine Below.drew ?_ | refine below_drewN ?_ _))
          | true =>
            have hA : Hid (dsA hL0 yL0 k = true) := by show _ = _; have h0 := (ds_lab (nth yL0 k)).2 t0; have h1 := hul.out; simp [dsA, h0]; simpa using h1
            go_wp2_with fail
            refine (iIsLabel_any _ _).mono ?_
            rintro e w_ ⟨rfl, rfl⟩
            rw [t0]
            go_wp2
            go_round
            case rel => exact ⟨k + 1, by omega, by go_num, fun j hj => by
                rcases Nat.lt_or_ge j k with h | h
                · exact HG.out j h
                · have : j = k := by omega
                  subst this; exact hA.out⟩
            case measure => simp [intOf]; omega
        · have e2i : ¬ (un : Int) = 2 := by omega
          have HO2 : Hid (dsOk hL0 yL0 = false) := dsOk_at hkl.out (by have h1 := hul.out; have : ¬ (hL0.getD k []).length = 2 := (by omega); simp [dsA, -List.getD_eq_getElem?_getD, this])
          go_wp2
          refine bodyPost_ret (v := .tuple #[.slice none 0 0, .bool false]) (by simp [results, go_sem, Try.results42]) rfl ⟨none, 0, 0, by rw [HO2.out], ?_, ?_⟩
          · rw [dsO_no HO2.out]; exact OwnL.nones _ (by simp) (by first | omega | (simp [size_drew]; done) | (simp [size_drew]; omega))
          · repeat (with_reducible (first | assumption | exact Below.refl _ _ | refine Below.alloc ?_ (by first | omega | (simp; done) | (simp; omega)) _ | refine Below.setCell ?_ (by first | omega | (simp; done) | (simp; omega)) _ | refine Below.drew ?_ | refine below_drewN ?_ _))
      have hkn : k = hn0 := by omega
      subst hkn
      clear hlt hk
      have HA := HG; clear HG
      go_wp2_with fail
      generalize hw1 : World.alloc _ _ = w1
      have z1 : w.heap.size + 1 ≤ w1.heap.size := by rw [← hw1]; simp
      have B1 : Below w.heap.size w w1 := by rw [← hw1]; repeat (with_reducible (first | assumption | exact Below.refl _ _ | refine Below.alloc ?_ (by first | omega | (simp; done) | (simp; omega)) _ | refine Below.setCell ?_ (by first | omega | (simp; done) | (simp; omega)) _ | refine Below.drew ?_ | refine below_drewN ?_ _))
      have xo_ : Box w1 (w.heap.size) #[] 3 := (by rw [← hw1]; exact (Box.new (g := w.heap.size) _ #[] 3 (by simp)))
      have xo := xo_; clear xo_
      clear hw1
      have ro := OwnL.lit0 xo
      obtain ⟨n0, hn0⟩ : ∃ n0, n0 = k := ⟨_, rfl⟩
      subst hn0
      go_loopw [8, 38] (fun v i wr => ∃ (k : Nat) (A : Option Addr) (n c : Nat), k ≤ n0 ∧ i = .int .i64 k ∧ v = .slice A n c ∧ Hid (OwnL wr w.heap.size wr.heap.size [(.slice A n c, .ints (genL (dsF hL0 yL0) k))]) ∧ Hid (∀ j, j < k → dsM hL0 yL0 j = true) ∧ Below w.heap.size w wr) (fun v i wr => n0 - (intOf i).toNat)
      case atStart => exact ⟨0, _, _, _, by omega, rfl, rfl, OwnL.widen ro (by omega), fun j hj => absurd hj (by omega), B1⟩
      case round =>
        clear ro
        obtain ⟨k, vA, vn, vc, hk, rfl, rfl, ro, HG, B9⟩ := hrel
        obtain ⟨w9, hw9⟩ : ∃ x, x = wr := ⟨wr, rfl⟩
        subst hw9
        have ro := ro.out
        have hsn := Lib.hid (genL_snoc (dsF hL0 yL0) k)
        have hgl := Lib.hid (genL_len (dsF hL0 yL0) k)
        have z9 := B9.size
        by_cases hlt : k < n0
        · obtain ⟨g, og, u, rfl, hg, hcg, hr, _⟩ := hH.at hlt
          obtain ⟨gy, oy, rfl, hgy, hcy⟩ := HY.out.block (by omega)
          have hcyk := hcy k hlt
          clear hcy
          obtain ⟨uA, un, uc, rfl, hU⟩ := hr
          have hul := Lib.hid hU.len
          have hkl : Hid (k < yL0.length) := by show _ < _; rw [HL.out]; exact hlt
          have HX : Hid (∃ X, X = hashI (nth yL0 k) 999999) := ⟨_, rfl⟩
          obtain ⟨X, HX⟩ := HX.out
          replace HX := Lib.hid HX
          have e2 : un = 2 := by
            have h1 := HA.out k hlt; have h2 := hul.out
            unfold dsA at h1
            have h3 := (and_true_of h1).1
            have h3 := of_decide_eq_true h3
            omega
          subst e2
          obtain ⟨gu, ou, rfl, hgu, hcu⟩ := hU.block (by omega)
          have hu0 := hcu 0 (by omega)
          have hu1 := hcu 1 (by omega)
          clear hcu
          simp only [Nat.add_zero] at hu0
          obtain ⟨r0, hr0⟩ : ∃ r, r = nth (hL0.getD k []) 0 := ⟨_, rfl⟩
          obtain ⟨r1, hr1⟩ : ∃ r, r = nth (hL0.getD k []) 1 := ⟨_, rfl⟩
          rw [← hr0] at hu0
          rw [← hr1] at hu1
          replace hr0 := Lib.hid hr0
          replace hr1 := Lib.hid hr1
          have hcg9 := (Below.cell (w := w) (by repeat (with_reducible (first | assumption | exact Below.refl _ _ | refine Below.alloc ?_ (by first | omega | (simp; done) | (simp; omega)) _ | refine Below.setCell ?_ (by first | omega | (simp; done) | (simp; omega)) _ | refine Below.drew ?_ | refine below_drewN ?_ _))) hg).trans hcg
          have l9_hcg : g < w9.heap.size := by omega
          have hcyk9 := (Below.cell (w := w) (by repeat (with_reducible (first | assumption | exact Below.refl _ _ | refine Below.alloc ?_ (by first | omega | (simp; done) | (simp; omega)) _ | refine Below.setCell ?_ (by first | omega | (simp; done) | (simp; omega)) _ | refine Below.drew ?_ | refine below_drewN ?_ _))) hgy).trans hcyk
          have l9_hcyk : gy < w9.heap.size := by omega
          have hu09 := (Below.cell (w := w) (by repeat (with_reducible (first | assumption | exact Below.refl _ _ | refine Below.alloc ?_ (by first | omega | (simp; done) | (simp; omega)) _ | refine Below.setCell ?_ (by first | omega | (simp; done) | (simp; omega)) _ | refine Below.drew ?_ | refine below_drewN ?_ _))) hgu).trans hu0
          have l9_hu0 : gu < w9.heap.size := by omega
          have hu19 := (Below.cell (w := w) (by repeat (with_reducible (first | assumption | exact Below.refl _ _ | refine Below.alloc ?_ (by first | omega | (simp; done) | (simp; omega)) _ | refine Below.setCell ?_ (by first | omega | (simp; done) | (simp; omega)) _ | refine Below.drew ?_ | refine below_drewN ?_ _))) hgu).trans hu1
          have l9_hu1 : gu < w9.heap.size := by omega
          cases t0 : (X == r0) with
          | true =>
            have hF : Hid (dsF hL0 yL0 k = 0) := by show _ = _; have e0 : r0 = X := (by simp at t0; omega); unfold dsF; rw [← hr0.out, ← HX.out]; exact if_pos e0
            have hM : Hid (dsM hL0 yL0 k = true) := by show _ = _; have e0 : r0 = X := (by simp at t0; omega); unfold dsM; rw [← hr0.out, ← HX.out, e0]; simp
            go_wp2_with fail
            refine (iHashLabel_any _ _ _).mono ?_
            rintro e w_ ⟨rfl, rfl⟩
            rw [← HX.out]
            go_wp2_with (at_builtin; (refine append_N rfl _ _ rfl (0) _ rfl rfl ro (by first | rfl | simp) (by have := hgl.out; omega) ?_); intro qA qn qc w10 ro_ c10)
            have z10 := c10.size
            (try simp only [World.size_alloc, World.size_setCell, size_drew] at z10)
            have B10 : Below w.heap.size w w10 := Below.trans (b := _) (by repeat (with_reducible (first | assumption | exact Below.refl _ _ | refine Below.alloc ?_ (by first | omega | (simp; done) | (simp; omega)) _ | refine Below.setCell ?_ (by first | omega | (simp; done) | (simp; omega)) _ | refine Below.drew ?_ | refine below_drewN ?_ _))) (c10.below (by omega) (by first | omega | (simp [size_drew]; done) | (simp [size_drew]; omega)))
            clear ro; have ro := ro_; clear ro_
            rw [← hF.out] at ro
            go_wp2
            go_roundw
            case rel => exact ⟨k + 1, _, _, _, by omega, by go_num, rfl, by rw [hsn.out]; exact OwnL.widen ro (by omega), fun j hj => by
                rcases Nat.lt_or_ge j k with h | h
                · exact HG.out j h
                · have : j = k := by omega
                  subst this; exact hM.out, B10⟩
            case measure => simp [intOf]; omega
          | false =>
            cases t1 : (X == r1) with
            | true =>
              have hF : Hid (dsF hL0 yL0 k = 1) := by show _ = _; have e0 : r0 ≠ X := (by simp at t0; omega); unfold dsF; rw [← hr0.out, ← HX.out]; exact if_neg e0
              have hM : Hid (dsM hL0 yL0 k = true) := by show _ = _; have e1 : r1 = X := (by simp at t1; omega); unfold dsM; rw [← hr1.out, ← HX.out, e1]; simp
              go_wp2_with fail
              refine (iHashLabel_any _ _ _).mono ?_
              rintro e w_ ⟨rfl, rfl⟩
              rw [← HX.out]
              go_wp2_with (at_builtin; (refine append_N rfl _ _ rfl (1) _ rfl rfl ro (by first | rfl | simp) (by have := hgl.out; omega) ?_); intro qA qn qc w10 ro_ c10)
              have z10 := c10.size
              (try simp only [World.size_alloc, World.size_setCell, size_drew] at z10)
              have B10 : Below w.heap.size w w10 := Below.trans (b := _) (by repeat (with_reducible (first | assumption | exact Below.refl _ _ | refine Below.alloc ?_ (by first | omega | (simp; done) | (simp; omega)) _ | refine Below.setCell ?_ (by first | omega | (simp; done) | (simp; omega)) _ | refine Below.drew ?_ | refine below_drewN ?_ _))) (c10.below (by omega) (by first | omega | (simp [size_drew]; done) | (simp [size_drew]; omega)))
              clear ro; have ro := ro_; clear ro_
              rw [← hF.out] at ro
              go_wp2
              go_roundw
              case rel => exact ⟨k + 1, _, _, _, by omega, by go_num, rfl, by rw [hsn.out]; exact OwnL.widen ro (by omega), fun j hj => by
                  rcases Nat.lt_or_ge j k with h | h
                  · exact HG.out j h
                  · have : j = k := by omega
                    subst this; exact hM.out, B10⟩
              case measure => simp [intOf]; omega
            | false =>
              have HO2 : Hid (dsOk hL0 yL0 = false) := dsOk_at hkl.out (by have e0 : r0 ≠ X := (by simp at t0; omega); have e1 : r1 ≠ X := (by simp at t1; omega); have : dsM hL0 yL0 k = false := (by unfold dsM; rw [← hr0.out, ← hr1.out, ← HX.out]; simp [e0, e1]); rw [this, Bool.and_false])
              go_wp2_with fail
              refine (iHashLabel_any _ _ _).mono ?_
              rintro e w_ ⟨rfl, rfl⟩
              rw [← HX.out]
              go_wp2
              refine bodyPost_ret (v := .tuple #[.slice none 0 0, .bool false]) (by simp [results, go_sem, Try.results42]) rfl ⟨none, 0, 0, by rw [HO2.out], ?_, ?_⟩
              · rw [dsO_no HO2.out]; exact OwnL.nones _ (by simp) (by first | omega | (simp [size_drew]; done) | (simp [size_drew]; omega))
              · repeat (with_reducible (first | assumption | exact Below.refl _ _ | refine Below.alloc ?_ (by first | omega | (simp; done) | (simp; omega)) _ | refine Below.setCell ?_ (by first | omega | (simp; done) | (simp; omega)) _ | refine Below.drew ?_ | refine below_drewN ?_ _))
        · have hkn : k = yL0.length := by have := HL.out; omega
          have HO2 : Hid (dsOk hL0 yL0 = true) := dsOk_all (by rw [HL.out]; exact HN.out) (fun j hj => ⟨HA.out j (by omega), HG.out j (by omega)⟩)
          have HK := Lib.hid hkn
          clear hkn
          go_wp2
          refine bodyPost_ret (v := .tuple #[.slice vA vn vc, .bool true]) (by simp [results, go_sem, Try.results42]) rfl ⟨_, _, _, by rw [HO2.out], ?_, ?_⟩
          · rw [dsO_yes HO2.out, ← HK.out]; exact OwnL.widen ro (by omega)
          · repeat (with_reducible (first | assumption | exact Below.refl _ _ | refine Below.alloc ?_ (by first | omega | (simp; done) | (simp; omega)) _ | refine Below.setCell ?_ (by first | omega | (simp; done) | (simp; omega)) _ | refine Below.drew ?_ | refine below_drewN ?_ _))
  · have hnmi : ¬ (hn0 : Int) = (yn0 : Int) := by omega
    have HO2 : Hid (dsOk hL0 yL0 = false) := dsOk_len (by have := HL.out; have := HN.out; omega)
    go_enter Try.func42, Try.ntmps42
    go_wp2
    refine bodyPost_ret (v := .tuple #[.slice none 0 0, .bool false]) (by simp [results, go_sem, Try.results42]) rfl ⟨none, 0, 0, by rw [HO2.out], ?_, ?_⟩
    · rw [dsO_no HO2.out]; exact OwnL.nones _ (by simp) (by first | omega | (simp [size_drew]; done) | (simp [size_drew]; omega))
    · repeat (with_reducible (first | assumption | exact Below.refl _ _ | refine Below.alloc ?_ (by first | omega | (simp; done) | (simp; omega)) _ | refine Below.setCell ?_ (by first | omega | (simp; done) | (simp; omega)) _ | refine Below.drew ?_ | refine below_drewN ?_ _))
end Go.Proofs.Ytodnahpegecpiaa

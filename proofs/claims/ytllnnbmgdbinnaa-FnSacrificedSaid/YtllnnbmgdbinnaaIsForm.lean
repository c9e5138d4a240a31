/- Contract of isForm: a variadic list of authenticated values. -/
import Derived.Test.YtllnnbmgdbinnaaMac
namespace Go.Proofs.Ytllnnbmgdbinnaa
set_option linter.unusedSimpArgs false
set_option linter.unusedVariables false
open Go.RowKit
/-- The j-th pair of lists. -/
def nthP (fs : List (List Int × List Int)) (j : Nat) : List Int × List Int := fs.getD j ([], [])
theorem nthP_lt {fs : List (List Int × List Int)} {j : Nat} (h : j < fs.length) : nthP fs j = fs[j] := by simp [nthP, List.getD, h]
/-- n authenticated values at the head of block g. -/
def AuthsAt (w : World) (g n : Nat) (fs : List (List Int × List Int)) : Prop :=
  fs.length = n ∧ g < w.heap.size ∧ ∀ j, j < n → ∃ A m c B m2 d, w.cell? ⟨g, j * 2, none⟩ = some (.slice A m c) ∧ w.cell? ⟨g, j * 2 + 1, none⟩ = some (.slice B m2 d) ∧ m ≤ 1048576 ∧ m2 ≤ 1048576 ∧ Ints w A m (nthP fs j).1 ∧ Ints w B m2 (nthP fs j).2
def formPart (p : Int) (al : List Int) (f : List Int × List Int) : Bool := decide (f.1.length = al.length) && decide (f.2.length = al.length) && allEl p f.1 && allEl p f.2
def isFormB (p : Int) (al : List Int) (fs : List (List Int × List Int)) : Bool := fs.all (formPart p al) && keysOk p al
theorem allP_snoc {q : List Int × List Int → Bool} {fs : List (List Int × List Int)} {k : Nat} (h : k < fs.length) (h1 : (fs.take k).all q = true) (h2 : q (nthP fs k) = true) : (fs.take (k + 1)).all q = true := by
  rw [List.take_succ_eq_append_getElem h, List.all_append, h1, ← nthP_lt h]; simp [h2]
theorem allP_not {q : List Int × List Int → Bool} {fs : List (List Int × List Int)} {k : Nat} (h : k < fs.length) (h2 : q (nthP fs k) = false) : fs.all q = false := by
  rw [List.all_eq_false]
  exact ⟨fs[k], List.getElem_mem _, by rw [← nthP_lt h]; simp [h2]⟩
theorem all_doneP {q : List Int × List Int → Bool} {fs : List (List Int × List Int)} {k : Nat} (h : k = fs.length) (h1 : (fs.take k).all q = true) : fs.all q = true := by
  rwa [h, List.take_length] at h1
set_option maxRecDepth 100000 in
set_option maxHeartbeats 2000000 in
theorem isForm_any {kA1 : Option Addr} {kn1 kc1 : Nat} {kL1 : List Int} {w : World} (kI0 : Int) (kH : RdL w [((.slice kA1 kn1 kc1), .ints kL1)]) (kL1n : kL1.length ≤ 1048576) (g n c : Nat) (fs : List (List Int × List Int)) (hA : AuthsAt w g n fs) (hn : n ≤ 8) :
    Calls Try.prog 108 #[.agg #[.int .i64 kI0, (.slice kA1 kn1 kc1)], .slice (some ⟨g, 0, none⟩) n c] w fun e w' => e = .returned (.bool (isFormB kI0 kL1 fs)) ∧ Below w.heap.size w w' := by
  have kL1i : Ints w kA1 kn1 kL1 := Rd.toInts (kH ((.slice kA1 kn1 kc1), .ints kL1) (by simp))
  have kL1l := Lib.hid kL1i.len
  have hl := Lib.hid hA.1
  have hg := hA.2.1
  go_enter Try.func108, Try.ntmps108
  go_wp2
  go_loopw [9] (fun i wr => ∃ k : Nat, k ≤ n ∧ i = .int .i64 k ∧ Hid ((fs.take k).all (formPart kI0 kL1) = true) ∧ Hid (Box wr w.heap.size #[.int .i64 kI0, (.slice kA1 kn1 kc1)] 33) ∧ Below w.heap.size w wr ∧ w.heap.size < wr.heap.size) (fun i _ => n - (intOf i).toNat)
  case atStart => exact ⟨0, by omega, rfl, rfl, Box.new _ _ _ rfl, (Below.refl _ _).alloc (Nat.le_refl _) _, by simp⟩
  case round =>
    obtain ⟨k, hk, rfl, hall, hX, hbr, hzr⟩ := hrel
    obtain ⟨c0, c1, f0, f1⟩ := hX.out.two
    by_cases hlt : k < n
    · obtain ⟨A, m, d, B, m2, d2, e0, e1, b1, b2, i1, i2⟩ := hA.2.2 k hlt
      have r0 : wr.cell? ⟨g, k * 2, none⟩ = some (.slice A m d) := (hbr.cell (p := ⟨g, k * 2, none⟩) hg).trans e0
      have r1 : wr.cell? ⟨g, k * 2 + 1, none⟩ = some (.slice B m2 d2) := (hbr.cell (p := ⟨g, k * 2 + 1, none⟩) hg).trans e1
      have j1 := i1.below hbr
      have j2 := i2.below hbr
      have l1 := Lib.hid i1.len
      have l2 := Lib.hid i2.len
      have HF := Lib.hid (show formPart kI0 kL1 (nthP fs k) = (decide (m = kn1) && decide (m2 = kn1) && allEl kI0 (nthP fs k).1 && allEl kI0 (nthP fs k).2) by rw [formPart, l1.out, l2.out, kL1l.out])
      cases t1 : ((m : Int) != (kn1 : Int)) with
      | true =>
        have t1d : decide (m = kn1) = false := by simp at t1 ⊢; omega
        go_wp2
        go_ret
        have hno := allP_not (q := formPart kI0 kL1) (fs := fs) (k := k) (by rw [hl.out]; exact hlt) (by rw [HF.out]; simp [t1d])
        exact ⟨ret_bool (by rw [isFormB, hno]; rfl), by repeat (with_reducible (first | assumption | exact Below.refl _ _ | refine Below.alloc ?_ (by first | omega | (simp; done) | (simp; omega)) _ | refine Below.setCell ?_ (by first | omega | (simp; done) | (simp; omega)) _ | refine Below.drew ?_ | refine below_drewN ?_ _))⟩
      | false =>
        have t1d : decide (m = kn1) = true := by simp at t1 ⊢; omega
        cases t2 : ((m2 : Int) != (kn1 : Int)) with
        | true =>
          have t2d : decide (m2 = kn1) = false := by simp at t2 ⊢; omega
          go_wp2
          go_ret
          have hno := allP_not (q := formPart kI0 kL1) (fs := fs) (k := k) (by rw [hl.out]; exact hlt) (by rw [HF.out]; simp [t2d])
          exact ⟨ret_bool (by rw [isFormB, hno]; rfl), by repeat (with_reducible (first | assumption | exact Below.refl _ _ | refine Below.alloc ?_ (by first | omega | (simp; done) | (simp; omega)) _ | refine Below.setCell ?_ (by first | omega | (simp; done) | (simp; omega)) _ | refine Below.drew ?_ | refine below_drewN ?_ _))⟩
        | false =>
          have t2d : decide (m2 = kn1) = true := by simp at t2 ⊢; omega
          cases t3 : allEl kI0 (nthP fs k).1 with
          | false =>
            go_wp2_with fail
            refine (areElements_any _ _ _ _ _ _ (j1.alloc _) (by omega)).mono ?_
            rintro e w_ ⟨rfl, rfl⟩
            go_wp2
            go_ret
            have hno := allP_not (q := formPart kI0 kL1) (fs := fs) (k := k) (by rw [hl.out]; exact hlt) (by rw [HF.out]; simp [t3])
            exact ⟨ret_bool (by rw [isFormB, hno]; rfl), by repeat (with_reducible (first | assumption | exact Below.refl _ _ | refine Below.alloc ?_ (by first | omega | (simp; done) | (simp; omega)) _ | refine Below.setCell ?_ (by first | omega | (simp; done) | (simp; omega)) _ | refine Below.drew ?_ | refine below_drewN ?_ _))⟩
          | true =>
            cases t4 : allEl kI0 (nthP fs k).2 with
            | false =>
              go_wp2_with fail
              refine (areElements_any _ _ _ _ _ _ (j1.alloc _) (by omega)).mono ?_
              rintro e w_ ⟨rfl, rfl⟩
              go_wp2_with fail
              refine (areElements_any _ _ _ _ _ _ (j2.alloc _) (by omega)).mono ?_
              rintro e w_ ⟨rfl, rfl⟩
              go_wp2
              go_ret
              have hno := allP_not (q := formPart kI0 kL1) (fs := fs) (k := k) (by rw [hl.out]; exact hlt) (by rw [HF.out]; simp [t4])
              exact ⟨ret_bool (by rw [isFormB, hno]; rfl), by repeat (with_reducible (first | assumption | exact Below.refl _ _ | refine Below.alloc ?_ (by first | omega | (simp; done) | (simp; omega)) _ | refine Below.setCell ?_ (by first | omega | (simp; done) | (simp; omega)) _ | refine Below.drew ?_ | refine below_drewN ?_ _))⟩
            | true =>
              go_wp2_with fail
              refine (areElements_any _ _ _ _ _ _ (j1.alloc _) (by omega)).mono ?_
              rintro e w_ ⟨rfl, rfl⟩
              go_wp2_with fail
              refine (areElements_any _ _ _ _ _ _ (j2.alloc _) (by omega)).mono ?_
              rintro e w_ ⟨rfl, rfl⟩
              go_wp2
              have hs := allP_snoc (q := formPart kI0 kL1) (fs := fs) (k := k) (by rw [hl.out]; exact hlt) hall.out (by rw [HF.out]; simp [t1d, t2d, t3, t4])
              go_roundw
              case rel => exact ⟨k + 1, by omega, by go_num, hs, hX.out.alloc _, by repeat (with_reducible (first | assumption | exact Below.refl _ _ | refine Below.alloc ?_ (by first | omega | (simp; done) | (simp; omega)) _ | refine Below.setCell ?_ (by first | omega | (simp; done) | (simp; omega)) _ | refine Below.drew ?_ | refine below_drewN ?_ _)), by simp; omega⟩
              case measure => simp [intOf]; omega
    · have hyes := all_doneP (q := formPart kI0 kL1) (fs := fs) (k := k) (by rw [hl.out]; omega) hall.out
      go_wp2_with fail
      refine (iKeysOk_L kI0 (RdL.below kH hbr) kL1n).mono ?_
      rintro e w2 ⟨rfl, hb2⟩
      go_wp2
      go_ret
      exact ⟨ret_bool (by rw [isFormB, hyes]; rfl), hbr.trans (hb2.mono hbr.size)⟩
end Go.Proofs.Ytllnnbmgdbinnaa

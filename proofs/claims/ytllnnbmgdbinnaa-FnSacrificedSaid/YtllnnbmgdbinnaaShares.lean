/- Contracts of AddShares, ScaleShares, AddConstant, OpenAdd, the program's and the reference's. -/
import Derived.Test.YtllnnbmgdbinnaaFldG
import Derived.Test.YtllnnbmgdbinnaaHl
import Derived.Test.YtllnnbmgdbinnaaOwnStep
import Derived.Test.YtllnnbmgdbinnaaAppend
import Derived.Test.YtllnnbmgdbinnaaSlib
namespace Go.Proofs.Ytllnnbmgdbinnaa
set_option linter.unusedSimpArgs false
set_option linter.unusedVariables false
open Go.RowKit
/-- A result of one slice, out of an owned one. -/
theorem own_result {w w' : World} {v : Value} {l : List Int} (h : Own w' w.heap.size v l) (hs : w.heap.size ≤ w'.heap.size) : ∃ A n c, v = .slice A n c ∧ OwnL w' w.heap.size w'.heap.size [(.slice A n c, .ints l)] := by
  have h1 : OwnL w' w.heap.size w'.heap.size [(v, .ints l)] := OwnL.one (d := .ints l) (show OwnD w' w.heap.size v (.ints l) from h) hs
  obtain ⟨A, n, c, rfl⟩ := h1.form
  exact ⟨A, n, c, rfl, h1⟩
theorem addL_no1 {p : Int} {a b : List Int} (h : a.length ≠ b.length) : addL p a b = [] := by simp [addL, h]
theorem addL_no2 {p : Int} {a b : List Int} (h : allEl p a = false) : addL p a b = [] := by simp [addL, h]
theorem addL_no3 {p : Int} {a b : List Int} (h : allEl p b = false) : addL p a b = [] := by simp [addL, h]
set_option maxRecDepth 100000 in
set_option maxHeartbeats 1000000 in
theorem sAddShares_V (p : Int) (A B : Option Addr) (n m c d : Nat) (a b : List Int) (w : World) (h1 : Ints w A n a) (h2 : Ints w B m b) (hn : n ≤ 1048576) (hm : m ≤ 1048576) :
    Calls Try.prog 119 #[.int .i64 p, .slice A n c, .slice B m d] w fun e w' => ∃ v, e = .returned v ∧ Own w' w.heap.size v (addL p a b) ∧ Below w.heap.size w w' := by
  have hl1 := Lib.hid h1.len
  have hl2 := Lib.hid h2.len
  by_cases hnm : n = m
  · subst hnm
    have hneq : ((n : Int) != (n : Int)) = false := by simp
    cases k1 : allEl p a with
    | false =>
      have hx := Lib.hid (addL_no2 (p := p) (a := a) (b := b) k1)
      go_enter Try.func119, Try.ntmps119
      go_wp2_with fail
      refine (l03All_any _ _ _ _ _ _ (h1.alloc _) (by omega)).mono ?_
      rintro e w' ⟨rfl, rfl⟩
      go_wp2
      go_ret
      exact ⟨_, rfl, by rw [hx.out]; exact Own.empty (Nat.le_refl _) rfl, (Below.refl _ _).alloc (Nat.le_refl _) _⟩
    | true =>
      cases k2 : allEl p b with
      | false =>
        have hx := Lib.hid (addL_no3 (p := p) (a := a) (b := b) k2)
        go_enter Try.func119, Try.ntmps119
        go_wp2_with fail
        refine (l03All_any _ _ _ _ _ _ (h1.alloc _) (by omega)).mono ?_
        rintro e w' ⟨rfl, rfl⟩
        go_wp2_with fail
        refine (l03All_any _ _ _ _ _ _ (h2.alloc _) (by omega)).mono ?_
        rintro e w' ⟨rfl, rfl⟩
        go_wp2
        go_ret
        exact ⟨_, rfl, by rw [hx.out]; exact Own.empty (Nat.le_refl _) rfl, (Below.refl _ _).alloc (Nat.le_refl _) _⟩
      | true =>
        have hx := Lib.hid (addL_yes (by rw [hl1.out, hl2.out]) k1 k2)
        go_enter Try.func119, Try.ntmps119
        go_wp2_with fail
        refine (l03All_any _ _ _ _ _ _ (h1.alloc _) (by omega)).mono ?_
        rintro e w' ⟨rfl, rfl⟩
        go_wp2_with fail
        refine (l03All_any _ _ _ _ _ _ (h2.alloc _) (by omega)).mono ?_
        rintro e w' ⟨rfl, rfl⟩
        go_wp2
        clear k1 k2
        go_loopw [7, 8] (fun v i wr => ∃ k : Nat, k ≤ n ∧ i = .int .i64 k ∧ Own wr w.heap.size v (genL (fun i => fadd p (nth a i) (nth b i)) k) ∧ Below w.heap.size w wr) (fun _ i _ => n - (intOf i).toNat)
        case atStart => exact ⟨0, by omega, rfl, Own.empty (Nat.le_refl _) rfl, (Below.refl _ _).alloc (Nat.le_refl _) _⟩
        case round =>
          obtain ⟨k, hk, rfl, hown, hbr⟩ := hrel
          by_cases hlt : k < n
          · obtain ⟨g, o, rfl, hg, hc⟩ := h1.block (by omega)
            obtain ⟨g2, o2, rfl, hg2, hc2⟩ := h2.block (by omega)
            have hck : wr.cell? ⟨g, o + k, none⟩ = some (.int .i64 (nth a k)) := (hbr.cell hg).trans (hc k hlt)
            have hck2 : wr.cell? ⟨g2, o2 + k, none⟩ = some (.int .i64 (nth b k)) := (hbr.cell hg2).trans (hc2 k hlt)
            have hsn := Lib.hid (genL_snoc (fun i => fadd p (nth a i) (nth b i)) k)
            have htl := genL_len (fun i => fadd p (nth a i) (nth b i)) k
            have hzr := hbr.size
            clear hc hc2
            have hi0 : (0 : Int) ≤ (k : Int) := Int.natCast_nonneg _
            have hi1 : (k : Int) < (n : Int) := by omega
            go_wp2_with fail
            go_region_held3 (fun W => W.cell? ⟨g, o + k, none⟩ = some (.int .i64 (nth a k)) ∧ W.cell? ⟨g2, o2 + k, none⟩ = some (.int .i64 (nth b k)))
              (first | go_keep | exact ⟨((hown.belowBase hzr (grown_new_drew hg3)).cell (p := ⟨g, o + k, none⟩) hg).trans hck, ((hown.belowBase hzr (grown_new_drew hg3)).cell (p := ⟨g2, o2 + k, none⟩) hg2).trans hck2⟩)
              (first | (go_at_call 133; refine (sFAdd_any _ _ _ _).mono ?_; rintro e w' ⟨rfl, rfl⟩) | (refine step_append_int rfl _ _ rfl w.heap.size u7 (genL (fun i => fadd p (nth a i) (nth b i)) k) (fadd p (nth a k) (nth b k)) wr.heap.size rfl rfl (cell_new_drew rfl) (hown.alloc _).drew (by omega) (le_new_drew hzr) ?_; intro v' w3 hown3 hg3))
            go_wp2_with fail
            have hB3 := hown.belowBase hzr (grown_new_drew hg3)
            go_roundw
            case rel => exact ⟨k + 1, by omega, by go_num, by rw [hsn.out]; exact hown3, hbr.trans hB3⟩
            case measure => simp [intOf]; omega
          · go_wp2
            go_ret
            exact ⟨_, rfl, by rw [hx.out, hl1.out, show n = k by omega]; exact hown, hbr⟩
  · have hneq : ((n : Int) != (m : Int)) = true := by simp; omega
    have hx := Lib.hid (addL_no1 (p := p) (a := a) (b := b) (by rw [hl1.out, hl2.out]; exact hnm))
    go_enter Try.func119, Try.ntmps119
    go_wp2
    go_ret
    exact ⟨_, rfl, by rw [hx.out]; exact Own.empty (Nat.le_refl _) rfl, (Below.refl _ _).alloc (Nat.le_refl _) _⟩
theorem cell_new {w : World} {c : Value} {t : TypeId} {g : Nat} (hg : g = w.heap.size) : (w.alloc (.cells #[c] t)).cell? ⟨g, 0, none⟩ = some c := by
  rw [World.cell?_alloc_at _ _ _ _ hg]; rfl
theorem grown_new {w w' : World} {o : Obj} {row : Option Nat} (h : (w.alloc o).grownBy w' row) : w.grownBy w' row := grown_trans (World.grownBy_alloc w o none) h
set_option maxRecDepth 100000 in
set_option maxHeartbeats 1000000 in
theorem iAddShares_V (p : Int) (A B : Option Addr) (n m c d : Nat) (a b : List Int) (w : World) (h1 : Ints w A n a) (h2 : Ints w B m b) (hn : n ≤ 1048576) (hm : m ≤ 1048576) :
    Calls Try.prog 120 #[.int .i64 p, .slice A n c, .slice B m d] w fun e w' => ∃ v, e = .returned v ∧ Own w' w.heap.size v (addL p a b) ∧ Below w.heap.size w w' := by
  have hl1 := Lib.hid h1.len
  have hl2 := Lib.hid h2.len
  by_cases hnm : n = m
  · subst hnm
    have hneq : ((n : Int) != (n : Int)) = false := by simp
    cases k1 : allEl p a with
    | false =>
      have hx := Lib.hid (addL_no2 (p := p) (a := a) (b := b) k1)
      go_enter Try.func120, Try.ntmps120
      go_wp2_with fail
      refine (areElements_any _ _ _ _ _ _ h1 (by omega)).mono ?_
      rintro e w' ⟨rfl, rfl⟩
      go_wp2
      go_ret
      exact ⟨_, rfl, by rw [hx.out]; exact Own.nil, Below.refl _ _⟩
    | true =>
      cases k2 : allEl p b with
      | false =>
        have hx := Lib.hid (addL_no3 (p := p) (a := a) (b := b) k2)
        go_enter Try.func120, Try.ntmps120
        go_wp2_with fail
        refine (areElements_any _ _ _ _ _ _ h1 (by omega)).mono ?_
        rintro e w' ⟨rfl, rfl⟩
        go_wp2_with fail
        refine (areElements_any _ _ _ _ _ _ h2 (by omega)).mono ?_
        rintro e w' ⟨rfl, rfl⟩
        go_wp2
        go_ret
        exact ⟨_, rfl, by rw [hx.out]; exact Own.nil, Below.refl _ _⟩
      | true =>
        have hx := Lib.hid (addL_yes (by rw [hl1.out, hl2.out]) k1 k2)
        go_enter Try.func120, Try.ntmps120
        go_wp2_with fail
        refine (areElements_any _ _ _ _ _ _ h1 (by omega)).mono ?_
        rintro e w' ⟨rfl, rfl⟩
        go_wp2_with fail
        refine (areElements_any _ _ _ _ _ _ h2 (by omega)).mono ?_
        rintro e w' ⟨rfl, rfl⟩
        go_wp2
        clear k1 k2
        go_loopw [7, 29] (fun v i wr => ∃ k : Nat, k ≤ n ∧ i = .int .i64 k ∧ Own wr w.heap.size v (genL (fun i => fadd p (nth a i) (nth b i)) k) ∧ Below w.heap.size w wr) (fun _ i _ => n - (intOf i).toNat)
        case atStart => exact ⟨0, by omega, rfl, Own.empty (Nat.le_refl _) rfl, (Below.refl _ _).alloc (Nat.le_refl _) _⟩
        case round =>
          obtain ⟨k, hk, rfl, hown, hbr⟩ := hrel
          by_cases hlt : k < n
          · obtain ⟨g, o, rfl, hg, hc⟩ := h1.block (by omega)
            obtain ⟨g2, o2, rfl, hg2, hc2⟩ := h2.block (by omega)
            have hck : wr.cell? ⟨g, o + k, none⟩ = some (.int .i64 (nth a k)) := (hbr.cell hg).trans (hc k hlt)
            have hck2 : wr.cell? ⟨g2, o2 + k, none⟩ = some (.int .i64 (nth b k)) := (hbr.cell hg2).trans (hc2 k hlt)
            have hsn := Lib.hid (genL_snoc (fun i => fadd p (nth a i) (nth b i)) k)
            have htl := genL_len (fun i => fadd p (nth a i) (nth b i)) k
            have hzr := hbr.size
            have hgr : g < wr.heap.size := by omega
            have hgr2 : g2 < wr.heap.size := by omega
            clear hc hc2
            have hi0 : (0 : Int) ≤ (k : Int) := Int.natCast_nonneg _
            have hi1 : (k : Int) < (n : Int) := by omega
            go_wp2_with fail
            go_region_held3 (fun W => W.cell? ⟨g, o + k, none⟩ = some (.int .i64 (nth a k)) ∧ W.cell? ⟨g2, o2 + k, none⟩ = some (.int .i64 (nth b k)))
              (first | go_keep | exact ⟨((hown2.belowBase hz2 (grown_new hg3)).cell (p := ⟨g, o + k, none⟩) hg).trans ((hb2.cell (p := ⟨g, o + k, none⟩) hgr).trans hck), ((hown2.belowBase hz2 (grown_new hg3)).cell (p := ⟨g2, o2 + k, none⟩) hg2).trans ((hb2.cell (p := ⟨g2, o2 + k, none⟩) hgr2).trans hck2)⟩ | exact ⟨(hb2.cell (p := ⟨g, o + k, none⟩) hgr).trans hck, (hb2.cell (p := ⟨g2, o2 + k, none⟩) hgr2).trans hck2⟩)
              (first | (go_at_call 134; refine (iFAdd_any _ _ _ _).mono ?_; rintro e w2 ⟨rfl, hb2⟩; have hown2 := hown.drew.below hb2; have hz2 : w.heap.size ≤ w2.heap.size := Nat.le_trans hzr hb2.size) | (refine step_append_int rfl _ _ rfl w.heap.size u7 (genL (fun i => fadd p (nth a i) (nth b i)) k) (fadd p (nth a k) (nth b k)) w2.heap.size rfl rfl (cell_new rfl) (hown2.alloc _) (by omega) (by simp; omega) ?_; intro v' w3 hown3 hg3))
            go_wp2_with fail
            have hB3 := (hbr.drew.trans (hb2.mono hzr)).trans (hown2.belowBase hz2 (grown_new hg3))
            go_roundw
            case rel => exact ⟨k + 1, by omega, by go_num, by rw [hsn.out]; exact hown3, hB3⟩
            case measure => simp [intOf]; omega
          · go_wp2
            go_ret
            exact ⟨_, rfl, by rw [hx.out, hl1.out, show n = k by omega]; exact hown, hbr⟩
  · have hneq : ((n : Int) != (m : Int)) = true := by simp; omega
    have hx := Lib.hid (addL_no1 (p := p) (a := a) (b := b) (by rw [hl1.out, hl2.out]; exact hnm))
    go_enter Try.func120, Try.ntmps120
    go_wp2
    go_ret
    exact ⟨_, rfl, by rw [hx.out]; exact Own.nil, Below.refl _ _⟩
theorem scaleL_no1 {p : Int} {a : List Int} {k : Int} (h : elem p k = false) : scaleL p a k = [] := by simp [scaleL, h]
theorem scaleL_no2 {p : Int} {a : List Int} {k : Int} (h : allEl p a = false) : scaleL p a k = [] := by simp [scaleL, h]
theorem scaleL_nil {p : Int} {k : Int} : scaleL p [] k = [] := by
  cases h : (elem p k && allEl p []) <;> simp [scaleL, h, genL]
set_option maxRecDepth 100000 in
set_option maxHeartbeats 1000000 in
theorem sScaleShares_V (p : Int) (A : Option Addr) (n c : Nat) (a : List Int) (q : Int) (w : World) (h1 : Ints w A n a) (hn : n ≤ 1048576) :
    Calls Try.prog 117 #[.int .i64 p, .slice A n c, .int .i64 q] w fun e w' => ∃ v, e = .returned v ∧ Own w' w.heap.size v (scaleL p a q) ∧ Below w.heap.size w w' := by
  have hl1 := Lib.hid h1.len
  by_cases hn0 : n = 0
  · subst hn0
    have hx := Lib.hid (show scaleL p a q = [] by rw [List.eq_nil_of_length_eq_zero hl1.out]; exact scaleL_nil)
    go_enter Try.func117, Try.ntmps117
    go_wp2_with fail
    refine wp_loop_rounds 1 ?_
    rw [rounds_succ]
    go_wp2
    go_ret
    exact ⟨_, rfl, by rw [hx.out]; exact Own.empty (Nat.le_refl _) rfl, (Below.refl _ _).alloc (Nat.le_refl _) _⟩
  have hn1 : 0 < n := by omega
  cases k1 : allEl p a with
  | false =>
    have hx := Lib.hid (scaleL_no2 (p := p) (a := a) (k := q) k1)
    go_enter Try.func117, Try.ntmps117
    go_wp2_with fail
    refine wp_loop_rounds 1 ?_
    rw [rounds_succ]
    go_wp2_with fail
    refine (l03All_any _ _ _ _ _ _ (h1.alloc _) (by omega)).mono ?_
    rintro e w' ⟨rfl, rfl⟩
    go_wp2
    go_ret
    exact ⟨_, rfl, by rw [hx.out]; exact Own.empty (Nat.le_refl _) rfl, (Below.refl _ _).alloc (Nat.le_refl _) _⟩
  | true =>
    cases k2 : elem p q with
    | false =>
      have hx := Lib.hid (scaleL_no1 (p := p) (a := a) (k := q) k2)
      go_enter Try.func117, Try.ntmps117
      go_wp2_with fail
      refine wp_loop_rounds 1 ?_
      rw [rounds_succ]
      go_wp2_with fail
      refine (l03All_any _ _ _ _ _ _ (h1.alloc _) (by omega)).mono ?_
      rintro e w' ⟨rfl, rfl⟩
      go_wp2_with fail
      refine (sIsElement_any _ _ _).mono ?_
      rintro e w' ⟨rfl, rfl⟩
      go_wp2
      go_ret
      exact ⟨_, rfl, by rw [hx.out]; exact Own.empty (Nat.le_refl _) rfl, (Below.refl _ _).alloc (Nat.le_refl _) _⟩
    | true =>
      have hx := Lib.hid (scaleL_yes k1 k2)
      go_enter Try.func117, Try.ntmps117
      go_wp2_with fail
      go_loopw [7, 8] (fun v i wr => ∃ k : Nat, k ≤ n ∧ i = .int .i64 k ∧ Own wr w.heap.size v (genL (fun i => fmul p (nth a i) q) k) ∧ Below w.heap.size w wr) (fun _ i _ => n - (intOf i).toNat)
      case atStart => exact ⟨0, by omega, rfl, Own.empty (Nat.le_refl _) rfl, (Below.refl _ _).alloc (Nat.le_refl _) _⟩
      case round =>
        obtain ⟨k, hk, rfl, hown, hbr⟩ := hrel
        have hI := h1.below hbr
        by_cases hlt : k < n
        · obtain ⟨g, o, rfl, hg, hc⟩ := h1.block (by omega)
          have hck : wr.cell? ⟨g, o + k, none⟩ = some (.int .i64 (nth a k)) := (hbr.cell hg).trans (hc k hlt)
          have hsn := Lib.hid (genL_snoc (fun i => fmul p (nth a i) q) k)
          have htl := genL_len (fun i => fmul p (nth a i) q) k
          have hzr := hbr.size
          clear hc
          go_wp2_with fail
          refine (l03All_any _ _ _ _ _ _ hI (by omega)).mono ?_
          rintro e w' ⟨rfl, rfl⟩
          go_wp2_with fail
          refine (sIsElement_any _ _ _).mono ?_
          rintro e w' ⟨rfl, rfl⟩
          go_wp2_with fail
          refine (sFMul_any _ _ _ _).mono ?_
          rintro e w' ⟨rfl, rfl⟩
          go_wp2_with (at_builtin; go_must (refine append_int rfl _ _ rfl w.heap.size u7 (genL (fun i => fmul p (nth a i) q) k) (fmul p (nth a k) q) wr.heap.size rfl rfl hown rfl (by omega) (by omega) ?_); intro v' w3 hown3 hg3)
          have hB3 := hown.belowBase (by omega) hg3
          go_roundw
          case rel => exact ⟨k + 1, by omega, by go_num, by rw [hsn.out]; exact hown3, hbr.trans hB3⟩
          case measure => simp [intOf]; omega
        · go_wp2
          go_ret
          exact ⟨_, rfl, by rw [hx.out, hl1.out, show n = k by omega]; exact hown, hbr⟩
set_option maxRecDepth 100000 in
set_option maxHeartbeats 1000000 in
theorem iScaleShares_V (p : Int) (A : Option Addr) (n c : Nat) (a : List Int) (q : Int) (w : World) (h1 : Ints w A n a) (hn : n ≤ 1048576) :
    Calls Try.prog 118 #[.int .i64 p, .slice A n c, .int .i64 q] w fun e w' => ∃ v, e = .returned v ∧ Own w' w.heap.size v (scaleL p a q) ∧ Below w.heap.size w w' := by
  have hl1 := Lib.hid h1.len
  cases k2 : elem p q with
  | false =>
    have hx := Lib.hid (scaleL_no1 (p := p) (a := a) (k := q) k2)
    go_enter Try.func118, Try.ntmps118
    go_wp2_with fail
    refine (iIsElement_any _ _ _).mono ?_
    rintro e w' ⟨rfl, rfl⟩
    go_wp2
    go_ret
    exact ⟨_, rfl, by rw [hx.out]; exact Own.nil, Below.refl _ _⟩
  | true =>
    cases k1 : allEl p a with
    | false =>
      have hx := Lib.hid (scaleL_no2 (p := p) (a := a) (k := q) k1)
      go_enter Try.func118, Try.ntmps118
      go_wp2_with fail
      refine (iIsElement_any _ _ _).mono ?_
      rintro e w' ⟨rfl, rfl⟩
      go_wp2_with fail
      refine (areElements_any _ _ _ _ _ _ h1 (by omega)).mono ?_
      rintro e w' ⟨rfl, rfl⟩
      go_wp2
      go_ret
      exact ⟨_, rfl, by rw [hx.out]; exact Own.nil, Below.refl _ _⟩
    | true =>
      have hx := Lib.hid (scaleL_yes k1 k2)
      go_enter Try.func118, Try.ntmps118
      go_wp2_with fail
      refine (iIsElement_any _ _ _).mono ?_
      rintro e w' ⟨rfl, rfl⟩
      go_wp2_with fail
      refine (areElements_any _ _ _ _ _ _ h1 (by omega)).mono ?_
      rintro e w' ⟨rfl, rfl⟩
      go_wp2_with fail
      go_loopw [7, 23] (fun v i wr => ∃ k : Nat, k ≤ n ∧ i = .int .i64 k ∧ Own wr w.heap.size v (genL (fun i => fmul p (nth a i) q) k) ∧ Below w.heap.size w wr) (fun _ i _ => n - (intOf i).toNat)
      case atStart => exact ⟨0, by omega, rfl, Own.empty (Nat.le_refl _) rfl, (Below.refl _ _).alloc (Nat.le_refl _) _⟩
      case round =>
        obtain ⟨k, hk, rfl, hown, hbr⟩ := hrel
        by_cases hlt : k < n
        · obtain ⟨g, o, rfl, hg, hc⟩ := h1.block (by omega)
          have hck : wr.cell? ⟨g, o + k, none⟩ = some (.int .i64 (nth a k)) := (hbr.cell hg).trans (hc k hlt)
          have hsn := Lib.hid (genL_snoc (fun i => fmul p (nth a i) q) k)
          have htl := genL_len (fun i => fmul p (nth a i) q) k
          have hzr := hbr.size
          clear hc
          go_wp2_with fail
          refine (iFMul_any _ _ _ _).mono ?_
          rintro e w2 ⟨rfl, hb2⟩
          have hown2 := hown.below hb2
          have hz2 := hb2.size
          go_wp2_with (at_builtin; go_must (refine append_int rfl _ _ rfl w.heap.size u7 (genL (fun i => fmul p (nth a i) q) k) (fmul p (nth a k) q) w2.heap.size rfl rfl hown2 rfl (by omega) (by omega) ?_); intro v' w3 hown3 hg3)
          have hB3 := (hbr.trans (hb2.mono hzr)).trans (hown2.belowBase (by omega) hg3)
          go_roundw
          case rel => exact ⟨k + 1, by omega, by go_num, by rw [hsn.out]; exact hown3, hB3⟩
          case measure => simp [intOf]; omega
        · go_wp2
          go_ret
          exact ⟨_, rfl, by rw [hx.out, hl1.out, show n = k by omega]; exact hown, hbr⟩
theorem constL_no0 {p : Int} {a : List Int} {k : Int} (h : a.length = 0) : constL p a k = [] := by simp [constL, h]
theorem constL_no1 {p : Int} {a : List Int} {k : Int} (h : elem p k = false) : constL p a k = [] := by simp [constL, h]
theorem constL_no2 {p : Int} {a : List Int} {k : Int} (h : allEl p a = false) : constL p a k = [] := by simp [constL, h]
theorem own_form {w : World} {base : Nat} {v : Value} {l : List Int} (h : Own w base v l) (hn : 0 < l.length) : ∃ g cap, v = .slice (some ⟨g, 0, none⟩) l.length cap := Joins.ownsRow_form h hn
set_option maxRecDepth 100000 in
theorem iints_V (A : Option Addr) (n c : Nat) (l : List Int) (w : World) (h : Ints w A n l) (hn : n ≤ 1048576) :
    Calls Try.prog 138 #[.slice A n c] w fun e w' => ∃ v, e = .returned v ∧ Own w' w.heap.size v l ∧ Below w.heap.size w w' := by
  go_enter Try.func138, Try.ntmps138
  go_wp2_with (at_builtin; go_must (refine append_ints rfl _ _ rfl w.heap.size _ [] rfl (Own.empty (Nat.le_refl _) rfl) rfl (h.alloc _) (by simp; omega) (by simp) ?_); intro v w1 hown hg1 hat1)
  go_ret
  exact ⟨v, rfl, by simpa using hown, ((Below.refl _ _).alloc (Nat.le_refl _) _).grown hg1 (by simp) (by intro k hk; cases hk; exact Nat.le_refl _)⟩
set_option maxRecDepth 100000 in
set_option maxHeartbeats 1000000 in
theorem sAddConstant_V (p : Int) (A : Option Addr) (n c : Nat) (a : List Int) (q : Int) (w : World) (h1 : Ints w A n a) (hn : n ≤ 1048576) :
    Calls Try.prog 127 #[.int .i64 p, .slice A n c, .int .i64 q] w fun e w' => ∃ v, e = .returned v ∧ Own w' w.heap.size v (constL p a q) ∧ Below w.heap.size w w' := by
  have hl1 := Lib.hid h1.len
  by_cases hn0 : n = 0
  · subst hn0
    have hx := Lib.hid (constL_no0 (p := p) (a := a) (k := q) hl1.out)
    go_enter Try.func127, Try.ntmps127
    go_wp2
    go_ret
    exact ⟨_, rfl, by rw [hx.out]; exact Own.empty (Nat.le_refl _) rfl, (Below.refl _ _).alloc (Nat.le_refl _) _⟩
  have hneq : ((n : Int) == 0) = false := by simp; omega
  cases k1 : allEl p a with
  | false =>
    have hx := Lib.hid (constL_no2 (p := p) (a := a) (k := q) k1)
    go_enter Try.func127, Try.ntmps127
    go_wp2_with fail
    refine (l03All_any _ _ _ _ _ _ h1 (by omega)).mono ?_
    rintro e w' ⟨rfl, rfl⟩
    go_wp2
    go_ret
    exact ⟨_, rfl, by rw [hx.out]; exact Own.empty (Nat.le_refl _) rfl, (Below.refl _ _).alloc (Nat.le_refl _) _⟩
  | true =>
    cases k2 : elem p q with
    | false =>
      have hx := Lib.hid (constL_no1 (p := p) (a := a) (k := q) k2)
      go_enter Try.func127, Try.ntmps127
      go_wp2_with fail
      refine (l03All_any _ _ _ _ _ _ h1 (by omega)).mono ?_
      rintro e w' ⟨rfl, rfl⟩
      go_wp2_with fail
      refine (sIsElement_any _ _ _).mono ?_
      rintro e w' ⟨rfl, rfl⟩
      go_wp2
      go_ret
      exact ⟨_, rfl, by rw [hx.out]; exact Own.empty (Nat.le_refl _) rfl, (Below.refl _ _).alloc (Nat.le_refl _) _⟩
    | true =>
      have hx := Lib.hid (constL_yes (p := p) (a := a) (k := q) (by rw [hl1.out]; exact hn0) k1 k2)
      obtain ⟨g, o, rfl, hg, hc⟩ := h1.block (by omega)
      have hc0 := hc 0 (by omega)
      simp only [Nat.add_zero] at hc0
      clear hc
      go_enter Try.func127, Try.ntmps127
      go_wp2_with fail
      refine (l03All_any _ _ _ _ _ _ h1 (by omega)).mono ?_
      rintro e w' ⟨rfl, rfl⟩
      go_wp2_with fail
      refine (sIsElement_any _ _ _).mono ?_
      rintro e w' ⟨rfl, rfl⟩
      go_wp2_with (at_builtin; go_must (refine append_ints rfl _ _ rfl w.heap.size _ [] rfl (Own.empty (Nat.le_refl _) rfl) rfl (h1.alloc _) (by simp; omega) (by simp) ?_); intro v w1 hown hg1 hat1; obtain ⟨g3, cap3, hv3⟩ := own_form hown (by rw [List.nil_append, hl1.out]; omega); rw [List.nil_append, hl1.out] at hv3; subst hv3; have hB1 : Below w.heap.size w w1 := ((Below.refl _ _).alloc (Nat.le_refl _) _).grown hg1 (by simp) (by intro k hk; cases hk; exact Nat.le_refl _); have hcw := (hB1.cell (p := ⟨g, o, none⟩) hg).trans hc0)
      refine (sFAdd_any _ _ _ _).mono ?_
      rintro e w' ⟨rfl, rfl⟩
      rw [List.nil_append] at hown
      have hd := hown.cellAt hl1.out (j := 0) (by omega)
      have hf := hown.frozenAt hl1.out 0
      go_wp2
      go_ret
      have hs := hown.stored hl1.out 0 (fadd p (nth a 0) q)
      exact ⟨_, rfl, by rw [hx.out]; exact hs.1, hB1.grown hs.2 (hB1.size) (by intro k hk; cases hk; exact (hown.block g3 rfl).1)⟩
set_option maxRecDepth 100000 in
set_option maxHeartbeats 1000000 in
theorem iAddConstant_V (p : Int) (A : Option Addr) (n c : Nat) (a : List Int) (q : Int) (w : World) (h1 : Ints w A n a) (hn : n ≤ 1048576) :
    Calls Try.prog 128 #[.int .i64 p, .slice A n c, .int .i64 q] w fun e w' => ∃ v, e = .returned v ∧ Own w' w.heap.size v (constL p a q) ∧ Below w.heap.size w w' := by
  have hl1 := Lib.hid h1.len
  by_cases hn0 : n = 0
  · subst hn0
    have hx := Lib.hid (constL_no0 (p := p) (a := a) (k := q) hl1.out)
    go_enter Try.func128, Try.ntmps128
    go_wp2
    go_ret
    exact ⟨_, rfl, by rw [hx.out]; exact Own.nil, Below.refl _ _⟩
  have hneq : ((n : Int) == 0) = false := by simp; omega
  cases k1 : elem p q with
  | false =>
    have hx := Lib.hid (constL_no1 (p := p) (a := a) (k := q) k1)
    go_enter Try.func128, Try.ntmps128
    go_wp2_with fail
    refine (iIsElement_any _ _ _).mono ?_
    rintro e w' ⟨rfl, rfl⟩
    go_wp2
    go_ret
    exact ⟨_, rfl, by rw [hx.out]; exact Own.nil, Below.refl _ _⟩
  | true =>
    cases k2 : allEl p a with
    | false =>
      have hx := Lib.hid (constL_no2 (p := p) (a := a) (k := q) k2)
      go_enter Try.func128, Try.ntmps128
      go_wp2_with fail
      refine (iIsElement_any _ _ _).mono ?_
      rintro e w' ⟨rfl, rfl⟩
      go_wp2_with fail
      refine (areElements_any _ _ _ _ _ _ h1 (by omega)).mono ?_
      rintro e w' ⟨rfl, rfl⟩
      go_wp2
      go_ret
      exact ⟨_, rfl, by rw [hx.out]; exact Own.nil, Below.refl _ _⟩
    | true =>
      have hx := Lib.hid (constL_yes (p := p) (a := a) (k := q) (by rw [hl1.out]; exact hn0) k2 k1)
      obtain ⟨g, o, rfl, hg, hc⟩ := h1.block (by omega)
      have hc0 := hc 0 (by omega)
      simp only [Nat.add_zero] at hc0
      clear hc
      go_enter Try.func128, Try.ntmps128
      go_wp2_with fail
      refine (iIsElement_any _ _ _).mono ?_
      rintro e w' ⟨rfl, rfl⟩
      go_wp2_with fail
      refine (areElements_any _ _ _ _ _ _ h1 (by omega)).mono ?_
      rintro e w' ⟨rfl, rfl⟩
      go_wp2_with fail
      refine (iints_V _ _ _ _ _ h1 (by omega)).mono ?_
      rintro e w1 ⟨v, rfl, hown, hB1⟩
      obtain ⟨g3, cap3, hv3⟩ := own_form hown (by rw [hl1.out]; omega)
      rw [hl1.out] at hv3
      subst hv3
      have hd := hown.cellAt hl1.out (j := 0) (by omega)
      have hg3 := hown.block g3 rfl
      go_wp2_with fail
      refine (iFAdd_any _ _ _ _).mono ?_
      rintro e w2 ⟨rfl, hb2⟩
      have hown := hown.below hb2
      have hB2 := hB1.trans (hb2.mono hB1.size)
      have hd := hown.cellAt hl1.out (j := 0) (by omega)
      have hf := hown.frozenAt hl1.out 0
      go_wp2
      go_ret
      have hs := hown.stored hl1.out 0 (fadd p (nth a 0) q)
      exact ⟨_, rfl, by rw [hx.out]; exact hs.1, hB2.grown hs.2 (hB2.size) (by intro k hk; cases hk; exact (hown.block g3 rfl).1)⟩
theorem sOpenAdd_any (p : Int) (A : Option Addr) (n c : Nat) (l : List Int) (w : World) (h : Ints w A n l) (hn : n ≤ 1048576) (h1 : 1 ≤ n) (h5 : n ≤ 5) :
    Calls Try.prog 79 #[.int .i64 p, .slice A n c] w fun e w' => e = .returned (.int .i64 (fsum p l)) ∧ w = w' := by
  have hi : inB (n : Int) 1 5 = true := inB_iff.2 (by omega)
  go_enter Try.func79, Try.ntmps79
  go_wp2_with (first | (go_at_call 93; refine (l01In_any _ _ _ _).mono ?_; rintro e w' ⟨rfl, rfl⟩))
  refine (sFSum_any _ _ _ _ _ _ h (by omega)).mono ?_
  rintro e w' ⟨rfl, rfl⟩
  go_wp2
  go_ret
  exact ⟨rfl, rfl⟩
end Go.Proofs.Ytllnnbmgdbinnaa

/- Contracts of InputLabels. Printed by mac2.py. -/
import Derived.Test.YtodnahpegecpiaaInz
import Derived.Test.YtodnahpegecpiaaRaB
namespace Go.Proofs.Ytodnahpegecpiaa
set_option linter.unusedSimpArgs false
set_option linter.unusedVariables false
open Go.RowKit
def inOk (s a : Int) (bs : List Int) : Bool := dlOk s a && decide (bs.length ≤ 80) && allBit bs
def inF (s a : Int) (bs : List Int) (k : Nat) : Int := labelFor (inputZero s a k) (deltaOf s a) (nth bs k)
def inLab (s a : Int) (bs : List Int) : List Int := if inOk s a bs then genL (inF s a bs) bs.length else []
theorem inLab_yes {s a : Int} {bs : List Int} (h : inOk s a bs = true) : inLab s a bs = genL (inF s a bs) bs.length := by simp [inLab, h]
theorem inLab_no {s a : Int} {bs : List Int} (h : inOk s a bs = false) : inLab s a bs = [] := by simp [inLab, h]
theorem inLab_len (s a : Int) (bs : List Int) : (inLab s a bs).length ≤ bs.length := by unfold inLab; split <;> simp [genL_len]
set_option maxRecDepth 100000 in
set_option maxHeartbeats 2000000 in
theorem sInputLabels_L {bA0 : Option Addr} {bn0 bc0 : Nat} {bL0 : List Int} {w : World} (tI0 : Int) (tI1 : Int) (bH : RdL w [((.slice bA0 bn0 bc0), .ints bL0)]) (bL0n : bL0.length ≤ 1048576) :
    Calls Try.prog 53 #[.agg #[.int .i64 tI0, .int .i64 tI1], (.slice bA0 bn0 bc0)] w fun e w' => ∃ rA0 rn0 rc0, e = .returned (.slice rA0 rn0 rc0) ∧ OwnL w' w.heap.size w'.heap.size [(.slice rA0 rn0 rc0, .ints (inLab tI0 tI1 bL0))] ∧ Below w.heap.size w w' := by
  have bL0i : Ints w bA0 bn0 bL0 := Rd.toInts (bH ((.slice bA0 bn0 bc0), .ints bL0) (by simp))
  have bL0l := Lib.hid bL0i.len
  have bL0m : bn0 ≤ 1048576 := by rw [← bL0l.out]; exact bL0n
  cases k1 : dlOk tI0 tI1 with
  | false =>
    have HO : Hid (inOk tI0 tI1 bL0 = false) := by show _ = _; simp [inOk, bL0l.out, k1]
    have k1' : (tapeOk tI0 tI1 && decide (tI1 ≤ 900000)) = false := k1
    go_enter Try.func53, Try.ntmps53
    go_wp2_with fail
    refine (l06Tape_any tI0 tI1 _).mono ?_
    rintro e w1 ⟨rfl, b1⟩
    have z1 := b1.size
    try simp only [World.size_alloc, World.size_setCell, size_drew] at z1
    have B1 : Below w.heap.size w w1 := Below.t b1
    have xt_ : Box w1 (w.heap.size) #[.int .i64 tI0, .int .i64 tI1] 29 := ((Box.new (g := w.heap.size) _ #[.int .i64 tI0, .int .i64 tI1] 29 (by simp)).alloc _).below b1 (by first | omega | (simp [size_drew]; done) | (simp [size_drew]; omega))
    have xt := xt_; clear xt_
    have xo_ : Box w1 (w.heap.size + 1) #[] 3 := (Box.new (g := w.heap.size + 1) _ #[] 3 (by simp)).below b1 (by first | omega | (simp [size_drew]; done) | (simp [size_drew]; omega))
    have xo := xo_; clear xo_
    have ro := OwnL.lit0 xo
    go_wp2
    refine bodyPost_ret (v := .slice (some ⟨w.heap.size + 1, 0, none⟩) 0 0) (by simp [results, go_sem, Try.results53]) rfl ⟨_, _, _, rfl, ?_, ?_⟩
    · rw [inLab_no HO.out]; exact OwnL.widen ro (by omega)
    · repeat (with_reducible (first | assumption | exact Below.refl _ _ | refine Below.alloc ?_ (by first | omega | (simp; done) | (simp; omega)) _ | refine Below.setCell ?_ (by first | omega | (simp; done) | (simp; omega)) _ | refine Below.drew ?_ | refine below_drewN ?_ _))
  | true =>
    cases k2 : decide (bn0 ≤ 80) with
    | false =>
      have HO : Hid (inOk tI0 tI1 bL0 = false) := by show _ = _; simp [inOk, bL0l.out, k1, k2]
      have k1' : (tapeOk tI0 tI1 && decide (tI1 ≤ 900000)) = true := k1
      have q3 : ((80 : Int) < bn0) := by simp at k2; omega
      go_enter Try.func53, Try.ntmps53
      go_wp2_with fail
      refine (l06Tape_any tI0 tI1 _).mono ?_
      rintro e w1 ⟨rfl, b1⟩
      have z1 := b1.size
      try simp only [World.size_alloc, World.size_setCell, size_drew] at z1
      have B1 : Below w.heap.size w w1 := Below.t b1
      have xt_ : Box w1 (w.heap.size) #[.int .i64 tI0, .int .i64 tI1] 29 := ((Box.new (g := w.heap.size) _ #[.int .i64 tI0, .int .i64 tI1] 29 (by simp)).alloc _).below b1 (by first | omega | (simp [size_drew]; done) | (simp [size_drew]; omega))
      have xt := xt_; clear xt_
      have xo_ : Box w1 (w.heap.size + 1) #[] 3 := (Box.new (g := w.heap.size + 1) _ #[] 3 (by simp)).below b1 (by first | omega | (simp [size_drew]; done) | (simp [size_drew]; omega))
      have xo := xo_; clear xo_
      have ro := OwnL.lit0 xo
      go_wp2
      refine bodyPost_ret (v := .slice (some ⟨w.heap.size + 1, 0, none⟩) 0 0) (by simp [results, go_sem, Try.results53]) rfl ⟨_, _, _, rfl, ?_, ?_⟩
      · rw [inLab_no HO.out]; exact OwnL.widen ro (by omega)
      · repeat (with_reducible (first | assumption | exact Below.refl _ _ | refine Below.alloc ?_ (by first | omega | (simp; done) | (simp; omega)) _ | refine Below.setCell ?_ (by first | omega | (simp; done) | (simp; omega)) _ | refine Below.drew ?_ | refine below_drewN ?_ _))
    | true =>
      cases k3 : allBit bL0 with
      | false =>
        have HO : Hid (inOk tI0 tI1 bL0 = false) := by show _ = _; simp [inOk, bL0l.out, k1, k2, k3]
        have k1' : (tapeOk tI0 tI1 && decide (tI1 ≤ 900000)) = true := k1
        have kb : bitsOk bL0 (bn0 : Int) = false := by simp [bitsOk, k3, bL0l.out]
        have q3 : ¬ ((80 : Int) < bn0) := by simp at k2; omega
        go_enter Try.func53, Try.ntmps53
        go_wp2_with fail
        refine (l06Tape_any tI0 tI1 _).mono ?_
        rintro e w1 ⟨rfl, b1⟩
        have z1 := b1.size
        try simp only [World.size_alloc, World.size_setCell, size_drew] at z1
        have B1 : Below w.heap.size w w1 := Below.t b1
        have xt_ : Box w1 (w.heap.size) #[.int .i64 tI0, .int .i64 tI1] 29 := ((Box.new (g := w.heap.size) _ #[.int .i64 tI0, .int .i64 tI1] 29 (by simp)).alloc _).below b1 (by first | omega | (simp [size_drew]; done) | (simp [size_drew]; omega))
        have xt := xt_; clear xt_
        have xo_ : Box w1 (w.heap.size + 1) #[] 3 := (Box.new (g := w.heap.size + 1) _ #[] 3 (by simp)).below b1 (by first | omega | (simp [size_drew]; done) | (simp [size_drew]; omega))
        have xo := xo_; clear xo_
        have ro := OwnL.lit0 xo
        go_wp2_with fail
        refine (l13Bits_any _ _ _ _ _ _ bL0i.b (by omega)).mono ?_
        rintro e w_ ⟨rfl, rfl⟩
        go_wp2
        refine bodyPost_ret (v := .slice (some ⟨w.heap.size + 1, 0, none⟩) 0 0) (by simp [results, go_sem, Try.results53]) rfl ⟨_, _, _, rfl, ?_, ?_⟩
        · rw [inLab_no HO.out]; exact OwnL.widen ro (by omega)
        · repeat (with_reducible (first | assumption | exact Below.refl _ _ | refine Below.alloc ?_ (by first | omega | (simp; done) | (simp; omega)) _ | refine Below.setCell ?_ (by first | omega | (simp; done) | (simp; omega)) _ | refine Below.drew ?_ | refine below_drewN ?_ _))
      | true =>
        have HO : Hid (inOk tI0 tI1 bL0 = true) := by show _ = _; simp [inOk, bL0l.out, k1, k2, k3]
        have k1' : (tapeOk tI0 tI1 && decide (tI1 ≤ 900000)) = true := k1
        have kb : bitsOk bL0 (bn0 : Int) = true := by simp [bitsOk, k3, bL0l.out]
        have q3 : ¬ ((80 : Int) < bn0) := by simp at k2; omega
        go_enter Try.func53, Try.ntmps53
        go_wp2_with fail
        refine (l06Tape_any tI0 tI1 _).mono ?_
        rintro e w1 ⟨rfl, b1⟩
        have z1 := b1.size
        try simp only [World.size_alloc, World.size_setCell, size_drew] at z1
        have B1 : Below w.heap.size w w1 := Below.t b1
        have xt_ : Box w1 (w.heap.size) #[.int .i64 tI0, .int .i64 tI1] 29 := ((Box.new (g := w.heap.size) _ #[.int .i64 tI0, .int .i64 tI1] 29 (by simp)).alloc _).below b1 (by first | omega | (simp [size_drew]; done) | (simp [size_drew]; omega))
        have xt := xt_; clear xt_
        have xo_ : Box w1 (w.heap.size + 1) #[] 3 := (Box.new (g := w.heap.size + 1) _ #[] 3 (by simp)).below b1 (by first | omega | (simp [size_drew]; done) | (simp [size_drew]; omega))
        have xo := xo_; clear xo_
        have ro := OwnL.lit0 xo
        go_wp2_with fail
        refine (l13Bits_any _ _ _ _ _ _ bL0i.b (by omega)).mono ?_
        rintro e w_ ⟨rfl, rfl⟩
        have HB := Lib.hid bL0i
        have hl80 : bn0 ≤ 80 := by omega
        obtain ⟨cxt_0, cxt_1, fxt_0, fxt_1⟩ := xt.two
        have l_xt_0 : w.heap.size < w1.heap.size := by omega
        go_wp2_with fail
        refine (sDeltaOf_L tI0 tI1).mono ?_
        rintro e w2 ⟨rfl, b2⟩
        clear cxt_0 cxt_1 fxt_0 fxt_1 l_xt_0
        have z2 := b2.size
        try simp only [World.size_alloc, World.size_setCell, size_drew] at z2
        have B2 : Below w.heap.size w w2 := Below.t b2
        have ro_ := ro.below b2
        clear ro; have ro := ro_; clear ro_
        have xt_ : Box w2 (w.heap.size) #[.int .i64 tI0, .int .i64 tI1] 29 := xt.below b2 (by first | omega | (simp [size_drew]; done) | (simp [size_drew]; omega))
        clear xt; have xt := xt_; clear xt_
        go_wp2
        generalize hw3 : World.alloc _ _ = w3
        have z3 : w2.heap.size + 1 ≤ w3.heap.size := by rw [← hw3]; simp
        have B3 : Below w.heap.size w w3 := by rw [← hw3]; repeat (with_reducible (first | assumption | exact Below.refl _ _ | refine Below.alloc ?_ (by first | omega | (simp; done) | (simp; omega)) _ | refine Below.setCell ?_ (by first | omega | (simp; done) | (simp; omega)) _ | refine Below.drew ?_ | refine below_drewN ?_ _))
        have hK : ∀ k, k < w2.heap.size → w3.heap[k]? = w2.heap[k]? := by
          intro k hk; rw [← hw3]
          repeat (first | rfl | refine (Below.heap_alloc _ _ _ (by first | omega | (simp; omega))).trans ?_)
        have ro_ := ro.keepBlock (w' := w3) (by omega) (fun k h1 h2 => hK k  (by have := ro.2.1; omega))
        clear ro; have ro := ro_; clear ro_
        have xt_ : Box w3 (w.heap.size) #[.int .i64 tI0, .int .i64 tI1] 29 := (by rw [← hw3]; exact (xt.alloc _))
        clear xt; have xt := xt_; clear xt_
        have xd_ : Box w3 (w2.heap.size) #[.int .i64 tI0, .int .i64 (deltaN tI0 tI1)] 29 := (by rw [← hw3]; exact (Box.new (g := w2.heap.size) _ #[.int .i64 tI0, .int .i64 (deltaN tI0 tI1)] 29 (by simp)))
        have xd := xd_; clear xd_
        clear hw3 hK
        go_loopw [5, 8] (fun v i wr => ∃ (k : Nat) (A : Option Addr) (n c : Nat), k ≤ bn0 ∧ i = .int .i64 k ∧ v = .slice A n c ∧ Hid (OwnL wr (w.heap.size + 1) wr.heap.size [(.slice A n c, .ints (genL (inF tI0 tI1 bL0) k))]) ∧ Hid (Box wr w.heap.size #[.int .i64 tI0, .int .i64 tI1] 29) ∧ Below w.heap.size w wr) (fun v i wr => bn0 - (intOf i).toNat)
        case atStart => exact ⟨0, _, _, _, by omega, rfl, rfl, OwnL.widen ro (by omega), xt, B3⟩
        case round =>
          obtain ⟨k, vA, vn, vc, hk, rfl, rfl, ro, xt, B9⟩ := hrel
          obtain ⟨w9, hw9⟩ : ∃ x, x = wr := ⟨wr, rfl⟩
          subst hw9
          have ro := ro.out
          have xt := xt.out
          have hsn := Lib.hid (genL_snoc (inF tI0 tI1 bL0) k)
          have hgl := Lib.hid (genL_len (inF tI0 tI1 bL0) k)
          have z9 := B9.size
          have zx := xt.lt
          by_cases hlt : k < bn0
          · obtain ⟨g, o, rfl, hg, hc⟩ := HB.out.block (by omega)
            have hck := hc k hlt
            clear hc
            obtain ⟨cxt_0, cxt_1, fxt_0, fxt_1⟩ := xt.two
            have l_xt_0 : w.heap.size < w9.heap.size := by omega
            go_wp2_with fail
            clear cxt_0 cxt_1 fxt_0 fxt_1 l_xt_0
            refine wp_region_held_drew (S := fun W => W.cell? ⟨w.heap.size, 0, none⟩ = some (.int .i64 tI0) ∧ W.cell? ⟨w.heap.size, 1, none⟩ = some (.int .i64 tI1) ∧ W.cell? ⟨g, o + k, none⟩ = some (.int .i64 (nth bL0 k))) (by kernel_rfl) ⟨xt.drew.two.1, xt.drew.two.2.1, (cellB hg hck)⟩ (fun hS => ?_)
            (refine tk 0 hS ?_; (try simp only [Act.put, layA, layB, layC]))
            (refine tk 1 hS ?_; (try simp only [Act.put, layA, layB, layC]))
            (refine tk 2 hS ?_; (try simp only [Act.put, layA, layB, layC]))
            (refine tk 4 hS ?_; (try simp only [Act.put, layA, layB, layC]))
            (refine tk 5 hS ?_; (try simp only [Act.put, layA, layB, layC]))
            (refine tk 6 hS ?_; (try simp only [Act.put, layA, layB, layC]))
            (refine tk 7 hS ?_; (try simp only [Act.put, layA, layB, layC]))
            (refine tk 8 hS ?_; (try simp only [Act.put, layA, layB, layC]))
            refine on 3 ?_
            refine callH (by go_simp; (first | done | with_reducible rfl | exact ⟨rfl, rfl⟩)) ?_
            go_at_call 111
            refine (sInputZero_L tI0 tI1 (k : Int)).mono ?_
            rintro e w10 ⟨rfl, b10⟩
            clear hS
            have z10 := Below.size b10
            (try simp only [World.size_alloc, World.size_setCell, size_drew] at z10)
            have B10 : Below w.heap.size w w10 := Below.t b10
            have ro_ := (ro.drew.below b10)
            clear ro; have ro := ro_; clear ro_
            have xt_ : Box w10 (w.heap.size) #[.int .i64 tI0, .int .i64 tI1] 29 := (Box.b xt.drew b10)
            clear xt; have xt := xt_; clear xt_
            refine ⟨_, rfl, ⟨xt.two.1, xt.two.2.1, (cellB hg hck)⟩, fun hS => ?_⟩
            (try simp only [Act.put, layA, layB, layC])
            refine on 9 ?_
            refine callH (by go_simp; (first | done | with_reducible rfl | exact ⟨rfl, rfl⟩)) ?_
            go_at_call 29
            refine (sLabelFor_any _ _ _ _).mono ?_
            rintro e w_ ⟨rfl, rfl⟩
            refine ⟨_, rfl, hS, fun hS => ?_⟩
            (try simp only [Act.put, layA, layB, layC])
            refine on 10 ?_
            refine valueH (by go_simp; (first | done | with_reducible rfl | exact ⟨rfl, rfl⟩)) ?_ (fun hS_ => ?_)
            · exact ⟨(xt.alloc _).two.1, (xt.alloc _).two.2.1, (cellB hg hck)⟩
            clear hS
            have hS := hS_
            clear hS_
            (try simp only [Act.put, layA, layB, layC])
            refine on 11 ?_
            refine appendH_L (.tmp 37) (.tmp 47) rfl rfl ((ro.alloc _)) rfl (Ints.new (g := w10.heap.size) _ [inF tI0 tI1 bL0 k] 3 (by simp) rfl) (by have := hgl.out; omega) ?_
            intro qA qn qc qlo qhi w11 ro_ dro c11
            have z11 := c11.size
            (try simp only [World.size_alloc, World.size_setCell, size_drew] at z11 dro)
            have B11 : Below w.heap.size w w11 := Below.trans (b := _) (by repeat (with_reducible (first | assumption | exact Below.refl _ _ | refine Below.alloc ?_ (by first | omega | (simp; done) | (simp; omega)) _ | refine Below.setCell ?_ (by first | omega | (simp; done) | (simp; omega)) _ | refine Below.drew ?_ | refine below_drewN ?_ _))) (c11.below (by omega) (by first | omega | (simp [size_drew]; done) | (simp [size_drew]; omega)))
            clear ro; have ro := ro_; clear ro_
            have xt_ : Box w11 (w.heap.size) #[.int .i64 tI0, .int .i64 tI1] 29 := ((xt.alloc _)).chg c11 (by omega)
            clear xt; have xt := xt_; clear xt_
            have xl_ : Box w11 (w10.heap.size) #[.int .i64 (inF tI0 tI1 bL0 k)] 3 := ((Box.new (g := w10.heap.size) _ #[.int .i64 (inF tI0 tI1 bL0 k)] 3 (by simp))).chg c11 (by omega)
            have xl := xl_; clear xl_
            refine ⟨⟨xt.two.1, xt.two.2.1, (cellB hg hck)⟩, fun hS_ => ?_⟩
            clear hS; have hS := hS_; clear hS_
            (try simp only [Act.put, layA, layB, layC])
            (refine tk 12 hS ?_; (try simp only [Act.put, layA, layB, layC]))
            clear hS
            refine wpAnyH_done (by kernel_rfl) ?_ _
            go_wp2
            go_roundw
            case rel => exact ⟨k + 1, _, _, _, by omega, by go_num, rfl, by rw [hsn.out]; exact OwnL.widen ro (by omega), xt, B11⟩
            case measure => simp [intOf]; omega
          · have hkn : k = bn0 := by omega
            go_wp2
            refine bodyPost_ret (v := .slice vA vn vc) (by simp [results, go_sem, Try.results53]) rfl ⟨_, _, _, rfl, ?_, ?_⟩
            · rw [inLab_yes HO.out, bL0l.out, ← hkn]; exact OwnL.widen ro (by omega)
            · repeat (with_reducible (first | assumption | exact Below.refl _ _ | refine Below.alloc ?_ (by first | omega | (simp; done) | (simp; omega)) _ | refine Below.setCell ?_ (by first | omega | (simp; done) | (simp; omega)) _ | refine Below.drew ?_ | refine below_drewN ?_ _))
set_option maxRecDepth 100000 in
set_option maxHeartbeats 2000000 in
theorem iInputLabels_L {bA0 : Option Addr} {bn0 bc0 : Nat} {bL0 : List Int} {w : World} (tI0 : Int) (tI1 : Int) (bH : RdL w [((.slice bA0 bn0 bc0), .ints bL0)]) (bL0n : bL0.length ≤ 1048576) :
    Calls Try.prog 27 #[.agg #[.int .i64 tI0, .int .i64 tI1], (.slice bA0 bn0 bc0)] w fun e w' => ∃ rA0 rn0 rc0, e = .returned (.slice rA0 rn0 rc0) ∧ OwnL w' w.heap.size w'.heap.size [(.slice rA0 rn0 rc0, .ints (inLab tI0 tI1 bL0))] ∧ Below w.heap.size w w' := by
  have bL0i : Ints w bA0 bn0 bL0 := Rd.toInts (bH ((.slice bA0 bn0 bc0), .ints bL0) (by simp))
  have bL0l := Lib.hid bL0i.len
  have bL0m : bn0 ≤ 1048576 := by rw [← bL0l.out]; exact bL0n
  cases k1 : tapeOk tI0 tI1 with
  | false =>
    have HO : Hid (inOk tI0 tI1 bL0 = false) := by show _ = _; simp [inOk, bL0l.out, dlOk, k1]
    go_enter Try.func27, Try.ntmps27
    go_wp2_with fail
    refine (iTapeOk_any tI0 tI1 _).mono ?_
    rintro e w1 ⟨rfl, b1⟩
    have z1 := b1.size
    try simp only [World.size_alloc, World.size_setCell, size_drew] at z1
    have B1 : Below w.heap.size w w1 := Below.t b1
    have xt_ : Box w1 (w.heap.size) #[.int .i64 tI0, .int .i64 tI1] 29 := (Box.new (g := w.heap.size) _ #[.int .i64 tI0, .int .i64 tI1] 29 (by simp)).below b1 (by first | omega | (simp [size_drew]; done) | (simp [size_drew]; omega))
    have xt := xt_; clear xt_
    go_wp2
    refine bodyPost_ret (v := .slice none 0 0) (by simp [results, go_sem, Try.results27]) rfl ⟨none, 0, 0, rfl, ?_, ?_⟩
    · rw [inLab_no HO.out]; exact OwnL.nones _ (by simp) (by first | omega | (simp [size_drew]; done) | (simp [size_drew]; omega))
    · repeat (with_reducible (first | assumption | exact Below.refl _ _ | refine Below.alloc ?_ (by first | omega | (simp; done) | (simp; omega)) _ | refine Below.setCell ?_ (by first | omega | (simp; done) | (simp; omega)) _ | refine Below.drew ?_ | refine below_drewN ?_ _))
  | true =>
    cases k2 : decide (tI1 ≤ 900000) with
    | false =>
      have HO : Hid (inOk tI0 tI1 bL0 = false) := by show _ = _; simp [inOk, bL0l.out, dlOk, k1, k2]
      have q2 : ((900000 : Int) < tI1) := by simp at k2; omega
      go_enter Try.func27, Try.ntmps27
      go_wp2_with fail
      refine (iTapeOk_any tI0 tI1 _).mono ?_
      rintro e w1 ⟨rfl, b1⟩
      have z1 := b1.size
      try simp only [World.size_alloc, World.size_setCell, size_drew] at z1
      have B1 : Below w.heap.size w w1 := Below.t b1
      have xt_ : Box w1 (w.heap.size) #[.int .i64 tI0, .int .i64 tI1] 29 := (Box.new (g := w.heap.size) _ #[.int .i64 tI0, .int .i64 tI1] 29 (by simp)).below b1 (by first | omega | (simp [size_drew]; done) | (simp [size_drew]; omega))
      have xt := xt_; clear xt_
      obtain ⟨cxt_0, cxt_1, fxt_0, fxt_1⟩ := xt.two
      have l_xt_0 : w.heap.size < w1.heap.size := by omega
      go_wp2
      refine bodyPost_ret (v := .slice none 0 0) (by simp [results, go_sem, Try.results27]) rfl ⟨none, 0, 0, rfl, ?_, ?_⟩
      · rw [inLab_no HO.out]; exact OwnL.nones _ (by simp) (by first | omega | (simp [size_drew]; done) | (simp [size_drew]; omega))
      · repeat (with_reducible (first | assumption | exact Below.refl _ _ | refine Below.alloc ?_ (by first | omega | (simp; done) | (simp; omega)) _ | refine Below.setCell ?_ (by first | omega | (simp; done) | (simp; omega)) _ | refine Below.drew ?_ | refine below_drewN ?_ _))
    | true =>
      cases k3 : decide (bn0 ≤ 80) with
      | false =>
        have HO : Hid (inOk tI0 tI1 bL0 = false) := by show _ = _; simp [inOk, bL0l.out, dlOk, k1, k2, k3]
        have q2 : ¬ ((900000 : Int) < tI1) := by simp at k2; omega
        have q3 : ((80 : Int) < bn0) := by simp at k3; omega
        go_enter Try.func27, Try.ntmps27
        go_wp2_with fail
        refine (iTapeOk_any tI0 tI1 _).mono ?_
        rintro e w1 ⟨rfl, b1⟩
        have z1 := b1.size
        try simp only [World.size_alloc, World.size_setCell, size_drew] at z1
        have B1 : Below w.heap.size w w1 := Below.t b1
        have xt_ : Box w1 (w.heap.size) #[.int .i64 tI0, .int .i64 tI1] 29 := (Box.new (g := w.heap.size) _ #[.int .i64 tI0, .int .i64 tI1] 29 (by simp)).below b1 (by first | omega | (simp [size_drew]; done) | (simp [size_drew]; omega))
        have xt := xt_; clear xt_
        obtain ⟨cxt_0, cxt_1, fxt_0, fxt_1⟩ := xt.two
        have l_xt_0 : w.heap.size < w1.heap.size := by omega
        go_wp2
        refine bodyPost_ret (v := .slice none 0 0) (by simp [results, go_sem, Try.results27]) rfl ⟨none, 0, 0, rfl, ?_, ?_⟩
        · rw [inLab_no HO.out]; exact OwnL.nones _ (by simp) (by first | omega | (simp [size_drew]; done) | (simp [size_drew]; omega))
        · repeat (with_reducible (first | assumption | exact Below.refl _ _ | refine Below.alloc ?_ (by first | omega | (simp; done) | (simp; omega)) _ | refine Below.setCell ?_ (by first | omega | (simp; done) | (simp; omega)) _ | refine Below.drew ?_ | refine below_drewN ?_ _))
      | true =>
        cases k4 : allBit bL0 with
        | false =>
          have HO : Hid (inOk tI0 tI1 bL0 = false) := by show _ = _; simp [inOk, bL0l.out, dlOk, k1, k2, k3, k4]
          have q2 : ¬ ((900000 : Int) < tI1) := by simp at k2; omega
          have q3 : ¬ ((80 : Int) < bn0) := by simp at k3; omega
          go_enter Try.func27, Try.ntmps27
          go_wp2_with fail
          refine (iTapeOk_any tI0 tI1 _).mono ?_
          rintro e w1 ⟨rfl, b1⟩
          have z1 := b1.size
          try simp only [World.size_alloc, World.size_setCell, size_drew] at z1
          have B1 : Below w.heap.size w w1 := Below.t b1
          have xt_ : Box w1 (w.heap.size) #[.int .i64 tI0, .int .i64 tI1] 29 := (Box.new (g := w.heap.size) _ #[.int .i64 tI0, .int .i64 tI1] 29 (by simp)).below b1 (by first | omega | (simp [size_drew]; done) | (simp [size_drew]; omega))
          have xt := xt_; clear xt_
          obtain ⟨cxt_0, cxt_1, fxt_0, fxt_1⟩ := xt.two
          have l_xt_0 : w.heap.size < w1.heap.size := by omega
          go_wp2_with fail
          clear cxt_0 cxt_1 fxt_0 fxt_1 l_xt_0
          refine (areBits_any _ _ _ _ _ bL0i.b (by omega)).mono ?_
          rintro e w_ ⟨rfl, rfl⟩
          go_wp2
          refine bodyPost_ret (v := .slice none 0 0) (by simp [results, go_sem, Try.results27]) rfl ⟨none, 0, 0, rfl, ?_, ?_⟩
          · rw [inLab_no HO.out]; exact OwnL.nones _ (by simp) (by first | omega | (simp [size_drew]; done) | (simp [size_drew]; omega))
          · repeat (with_reducible (first | assumption | exact Below.refl _ _ | refine Below.alloc ?_ (by first | omega | (simp; done) | (simp; omega)) _ | refine Below.setCell ?_ (by first | omega | (simp; done) | (simp; omega)) _ | refine Below.drew ?_ | refine below_drewN ?_ _))
        | true =>
          have HO : Hid (inOk tI0 tI1 bL0 = true) := by show _ = _; simp [inOk, bL0l.out, dlOk, k1, k2, k3, k4]
          have q2 : ¬ ((900000 : Int) < tI1) := by simp at k2; omega
          have q3 : ¬ ((80 : Int) < bn0) := by simp at k3; omega
          go_enter Try.func27, Try.ntmps27
          go_wp2_with fail
          refine (iTapeOk_any tI0 tI1 _).mono ?_
          rintro e w1 ⟨rfl, b1⟩
          have z1 := b1.size
          try simp only [World.size_alloc, World.size_setCell, size_drew] at z1
          have B1 : Below w.heap.size w w1 := Below.t b1
          have xt_ : Box w1 (w.heap.size) #[.int .i64 tI0, .int .i64 tI1] 29 := (Box.new (g := w.heap.size) _ #[.int .i64 tI0, .int .i64 tI1] 29 (by simp)).below b1 (by first | omega | (simp [size_drew]; done) | (simp [size_drew]; omega))
          have xt := xt_; clear xt_
          obtain ⟨cxt_0, cxt_1, fxt_0, fxt_1⟩ := xt.two
          have l_xt_0 : w.heap.size < w1.heap.size := by omega
          go_wp2_with fail
          clear cxt_0 cxt_1 fxt_0 fxt_1 l_xt_0
          refine (areBits_any _ _ _ _ _ bL0i.b (by omega)).mono ?_
          rintro e w_ ⟨rfl, rfl⟩
          have HB := Lib.hid bL0i
          have hl80 : bn0 ≤ 80 := by omega
          obtain ⟨cxt_0, cxt_1, fxt_0, fxt_1⟩ := xt.two
          have l_xt_0 : w.heap.size < w1.heap.size := by omega
          go_wp2_with fail
          refine (iDeltaOf_L tI0 tI1).mono ?_
          rintro e w2 ⟨rfl, b2⟩
          clear cxt_0 cxt_1 fxt_0 fxt_1 l_xt_0
          have z2 := b2.size
          try simp only [World.size_alloc, World.size_setCell, size_drew] at z2
          have B2 : Below w.heap.size w w2 := Below.t b2
          have xt_ : Box w2 (w.heap.size) #[.int .i64 tI0, .int .i64 tI1] 29 := xt.below b2 (by first | omega | (simp [size_drew]; done) | (simp [size_drew]; omega))
          clear xt; have xt := xt_; clear xt_
          go_wp2
          generalize hw3 : World.alloc _ _ = w3
          have z3 : w2.heap.size + 1 + 1 ≤ w3.heap.size := by rw [← hw3]; simp
          have B3 : Below w.heap.size w w3 := by rw [← hw3]; repeat (with_reducible (first | assumption | exact Below.refl _ _ | refine Below.alloc ?_ (by first | omega | (simp; done) | (simp; omega)) _ | refine Below.setCell ?_ (by first | omega | (simp; done) | (simp; omega)) _ | refine Below.drew ?_ | refine below_drewN ?_ _))
          have xt_ : Box w3 (w.heap.size) #[.int .i64 tI0, .int .i64 tI1] 29 := (by rw [← hw3]; exact ((xt.alloc _).alloc _))
          clear xt; have xt := xt_; clear xt_
          have xd_ : Box w3 (w2.heap.size) #[.int .i64 tI0, .int .i64 (deltaN tI0 tI1)] 29 := (by rw [← hw3]; exact ((Box.new (g := w2.heap.size) _ #[.int .i64 tI0, .int .i64 (deltaN tI0 tI1)] 29 (by simp)).alloc _))
          have xd := xd_; clear xd_
          have xo_ : Box w3 (w2.heap.size + 1) #[] 3 := (by rw [← hw3]; exact (Box.new (g := w2.heap.size + 1) _ #[] 3 (by simp)))
          have xo := xo_; clear xo_
          clear hw3
          have ro := OwnL.lit0 xo
          go_loopw [7, 36] (fun v i wr => ∃ (k : Nat) (A : Option Addr) (n c : Nat), k ≤ bn0 ∧ i = .int .i64 k ∧ v = .slice A n c ∧ Hid (OwnL wr (w.heap.size + 1) wr.heap.size [(.slice A n c, .ints (genL (inF tI0 tI1 bL0) k))]) ∧ Hid (Box wr w.heap.size #[.int .i64 tI0, .int .i64 tI1] 29) ∧ Below w.heap.size w wr) (fun v i wr => bn0 - (intOf i).toNat)
          case atStart => exact ⟨0, _, _, _, by omega, rfl, rfl, OwnL.widen ro (by omega), xt, B3⟩
          case round =>
            obtain ⟨k, vA, vn, vc, hk, rfl, rfl, ro, xt, B9⟩ := hrel
            obtain ⟨w9, hw9⟩ : ∃ x, x = wr := ⟨wr, rfl⟩
            subst hw9
            have ro := ro.out
            have xt := xt.out
            have hsn := Lib.hid (genL_snoc (inF tI0 tI1 bL0) k)
            have hgl := Lib.hid (genL_len (inF tI0 tI1 bL0) k)
            have z9 := B9.size
            have zx := xt.lt
            by_cases hlt : k < bn0
            · obtain ⟨g, o, rfl, hg, hc⟩ := HB.out.block (by omega)
              have hck := hc k hlt
              clear hc
              have hck9 : w9.cell? ⟨g, o + k, none⟩ = some (.int .i64 (nth bL0 k)) := (Below.cell (w := w) (by repeat (with_reducible (first | assumption | exact Below.refl _ _ | refine Below.alloc ?_ (by first | omega | (simp; done) | (simp; omega)) _ | refine Below.setCell ?_ (by first | omega | (simp; done) | (simp; omega)) _ | refine Below.drew ?_ | refine below_drewN ?_ _))) hg).trans hck
              obtain ⟨cxt_0, cxt_1, fxt_0, fxt_1⟩ := xt.two
              have l_xt_0 : w.heap.size < w9.heap.size := by omega
              go_wp2_with fail
              refine (iInputZero_L tI0 tI1 (k : Int)).mono ?_
              rintro e w10 ⟨rfl, b10⟩
              clear cxt_0 cxt_1 fxt_0 fxt_1 l_xt_0
              have z10 := b10.size
              try simp only [World.size_alloc, World.size_setCell, size_drew] at z10
              have B10 : Below w.heap.size w w10 := Below.t b10
              have ro_ := ro.below b10
              clear ro; have ro := ro_; clear ro_
              have xt_ : Box w10 (w.heap.size) #[.int .i64 tI0, .int .i64 tI1] 29 := xt.below b10 (by first | omega | (simp [size_drew]; done) | (simp [size_drew]; omega))
              clear xt; have xt := xt_; clear xt_
              go_wp2_with fail
              refine (iLabelFor_any _ _ _ _).mono ?_
              rintro e w11 ⟨rfl, b11⟩
              have z11 := b11.size
              try simp only [World.size_alloc, World.size_setCell, size_drew] at z11
              have B11 : Below w.heap.size w w11 := Below.t b11
              have ro_ := ro.below b11
              clear ro; have ro := ro_; clear ro_
              have xt_ : Box w11 (w.heap.size) #[.int .i64 tI0, .int .i64 tI1] 29 := xt.below b11 (by first | omega | (simp [size_drew]; done) | (simp [size_drew]; omega))
              clear xt; have xt := xt_; clear xt_
              go_wp2_with (at_builtin; go_must (refine append_N rfl _ _ rfl (inF tI0 tI1 bL0 k) _ rfl rfl ro (by first | rfl | simp) (by have := hgl.out; omega) ?_); intro qA qn qc w12 ro_ c12)
              have z12 := c12.size
              (try simp only [World.size_alloc, World.size_setCell, size_drew] at z12)
              have B12 : Below w.heap.size w w12 := Below.trans (b := _) (by repeat (with_reducible (first | assumption | exact Below.refl _ _ | refine Below.alloc ?_ (by first | omega | (simp; done) | (simp; omega)) _ | refine Below.setCell ?_ (by first | omega | (simp; done) | (simp; omega)) _ | refine Below.drew ?_ | refine below_drewN ?_ _))) (c12.below (by omega) (by first | omega | (simp [size_drew]; done) | (simp [size_drew]; omega)))
              clear ro; have ro := ro_; clear ro_
              have xt_ : Box w12 (w.heap.size) #[.int .i64 tI0, .int .i64 tI1] 29 := xt.chg c12 (by omega)
              clear xt; have xt := xt_; clear xt_
              go_wp2
              go_roundw
              case rel => exact ⟨k + 1, _, _, _, by omega, by go_num, rfl, by rw [hsn.out]; exact OwnL.widen ro (by omega), xt, B12⟩
              case measure => simp [intOf]; omega
            · have hkn : k = bn0 := by omega
              go_wp2
              refine bodyPost_ret (v := .slice vA vn vc) (by simp [results, go_sem, Try.results27]) rfl ⟨_, _, _, rfl, ?_, ?_⟩
              · rw [inLab_yes HO.out, bL0l.out, ← hkn]; exact OwnL.widen ro (by omega)
              · repeat (with_reducible (first | assumption | exact Below.refl _ _ | refine Below.alloc ?_ (by first | omega | (simp; done) | (simp; omega)) _ | refine Below.setCell ?_ (by first | omega | (simp; done) | (simp; omega)) _ | refine Below.drew ?_ | refine below_drewN ?_ _))
end Go.Proofs.Ytodnahpegecpiaa

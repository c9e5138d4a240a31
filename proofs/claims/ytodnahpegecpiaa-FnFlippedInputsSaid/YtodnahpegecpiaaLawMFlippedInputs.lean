/- Proved: for all arguments the law FnFlippedInputs returns true, and the arguments read behind the call as before. No condition. -/
import Derived.Test.YtodnahpegecpiaaDrw
import Derived.Test.YtodnahpegecpiaaWir
import Derived.Test.YtodnahpegecpiaaOpenS
import Derived.Test.YtodnahpegecpiaaFacts
namespace Go.Proofs.Ytodnahpegecpiaa
set_option linter.unusedSimpArgs false
set_option linter.unusedVariables false
open Go.RowKit
def flF (bs : List Int) (k : Nat) : Int := 1 - nth bs k
theorem flip_x {z d v : Int} (lz : lab z = true) (ld : lab d = true) (hv : v = 0 ∨ v = 1) : bits .xor .i64 (labelFor z d v) (labelFor z d (1 - v)) = d := by
  have i1 : inB v 0 1 = true := inB_iff.2 (by omega)
  have i2 : inB (1 - v) 0 1 = true := inB_iff.2 (by omega)
  show xo _ _ = d
  rw [xo_xl (labelFor_lab lz ld i1) (labelFor_lab lz ld i2), labelFor_xl lz ld hv, labelFor_xl lz ld (by omega)]
  have z0 := (lab_iff.1 lz).1
  have d0 := (lab_iff.1 ld).1
  rcases hv with rfl | rfl
  · simp [xl_zero, z0, xl_cancel, d0]
  · simp [xl_zero, z0]; rw [xl_comm, xl_cancel d0]
theorem flip_bits {bs : List Int} (h : bitsOk bs 80 = true) : bitsOk (genL (flF bs) 80) 80 = true := by
  obtain ⟨h1, h2⟩ := bits80 h
  have : allBit (genL (flF bs) 80) = true := genL_all fun j hj => by
    have := bit_of h1 (m := j) (by omega)
    exact inB_iff.2 (by unfold flF; omega)
  simp [bitsOk, this, genL_len]
set_option maxRecDepth 100000 in
set_option maxHeartbeats 10000000 in
theorem walk_FnFlippedInputs (A : Option Addr) (n c : Nat) (w : World) (hx : Bts0 w A n) :
    Calls Try.prog 6 #[.slice A n c] w fun e w' => e = .returned (.bool true) ∧ Below w.heap.size w w' := by
  by_cases hn : (1048576 : Int) < n
  · go_enter Try.func6, Try.ntmps6
    go_wp2_with fail
    refine (big_any _ _ _ _).mono ?_
    rintro e w1 ⟨rfl, rfl⟩
    go_wp2
    go_ret
    exact ⟨rfl, Below.refl _ _⟩
  · have hB0 : Bts w A n := ⟨by omega, hx.2⟩
    go_enter Try.func6, Try.ntmps6
    go_wp2_with fail
    refine (big_any _ _ _ _).mono ?_
    rintro e w_ ⟨rfl, rfl⟩
    go_wp2_with fail
    refine (DrawGarbling_any n c A _ hB0).mono ?_
    rintro e w1 ⟨cA0, cn0, cc0, cA1, cn1, cc1, yA0, yn0, yc0, cL0, cL1, yL0, tI0, tI1, rfl, rd, hc, hg24, ho1, ho4, hbits, hdl, b1⟩
    have B1 := b1
    have z1 := b1.size
    have cL0n : cL0.length ≤ 1048576 := by omega
    have cL1n : cL1.length ≤ 1048576 := by omega
    have yl80 := Lib.hid (bits80 hbits).2
    have hyb := Lib.hid (bits80 hbits).1
    have yL0n : yL0.length ≤ 1048576 := by have := yl80.out; omega
    have hgar : Hid (garbOk cL0 cL1 tI0 tI1 = true) := by show _ = _; rw [garbOk, hc, hdl]; rfl
    have hrg : Hid (rgOk cL0 cL1 tI0 tI1 yL0 = true) := by show _ = _; rw [rgOk, hgar.out, hbits]; rfl
    have hec : Hid (ecOk cL0 cL1 yL0 = true) := by show _ = _; rw [ecOk, hc, hbits]; rfl
    have hgb := Lib.hid (gar_gb hgar.out)
    have hpb := Lib.hid (rg_pb hrg.out)
    have hZn : (garZ cL0 cL1 tI0 tI1).length ≤ 1048576 := Nat.le_trans (garZ_len _ _ _ _) cL0n
    have hTn : (garT cL0 cL1 tI0 tI1).length ≤ 1048576 := Nat.le_trans (garT_len _ _ _ _) (by omega)
    have hK := Lib.hid hc
    have hD := Lib.hid hdl
    have hB := Lib.hid hbits
    clear b1 hc hdl hbits
    obtain rfl : yn0 = 80 := by rw [ownLen (A := yA0) (n := yn0) (c := yc0) (l := yL0) rd (by simp)]; exact yl80.out
    obtain ⟨g2, g2o, rfl, g2h⟩ := ownSome (A := yA0) (n := 80) (c := yc0) (l := yL0) rd (by simp) (by rw [yl80.out]; omega)
    go_wp2_with fail
    generalize hw2 : World.alloc _ _ = w2
    have z2 : w1.heap.size + 1 + 1 + 1 ≤ w2.heap.size := by rw [← hw2]; simp
    have B2 : Below w.heap.size w w2 := by rw [← hw2]; repeat (with_reducible (first | assumption | exact Below.refl _ _ | refine Below.alloc ?_ (by first | omega | (simp; done) | (simp; omega)) _ | refine Below.setCell ?_ (by first | omega | (simp; done) | (simp; omega)) _ | refine Below.drew ?_ | refine below_drewN ?_ _))
    have hK : ∀ k, k < w1.heap.size → w2.heap[k]? = w1.heap[k]? := by
      intro k hk; rw [← hw2]
      repeat (first | rfl | refine (Below.heap_alloc _ _ _ (by first | omega | (simp; omega))).trans ?_)
    have rd_ := rd.keepBlock (w' := w2) (by omega) (fun k h1 h2 => hK k  (by have := rd.2.1; omega))
    clear rd; have rd := rd_; clear rd_
    have xc_ : Box w2 (w1.heap.size) #[.slice cA0 cn0 cc0, .slice cA1 cn1 cc1] 27 := (by rw [← hw2]; exact (((Box.new (g := w1.heap.size) _ #[.slice cA0 cn0 cc0, .slice cA1 cn1 cc1] 27 (by simp)).alloc _).alloc _))
    have xc := xc_; clear xc_
    have xt_ : Box w2 (w1.heap.size + 1) #[.int .i64 tI0, .int .i64 tI1] 29 := (by rw [← hw2]; exact ((Box.new (g := w1.heap.size + 1) _ #[.int .i64 tI0, .int .i64 tI1] 29 (by simp)).alloc _))
    have xt := xt_; clear xt_
    have xo_ : Box w2 (w1.heap.size + 1 + 1) #[] 3 := (by rw [← hw2]; exact (Box.new (g := w1.heap.size + 1 + 1) _ #[] 3 (by simp)))
    have xo := xo_; clear xo_
    clear hw2 hK
    have ro := OwnL.lit0 xo
    go_loopw [6, 7] (fun v i wr => ∃ (k : Nat) (A : Option Addr) (n c : Nat), k ≤ 80 ∧ i = .int .i64 k ∧ v = .slice A n c ∧ Hid (OwnL wr w.heap.size w1.heap.size [(.slice cA0 cn0 cc0, .gates cL0), (.slice cA1 cn1 cc1, .ints cL1), (.slice (some ⟨g2, g2o, none⟩) 80 yc0, .ints yL0)]) ∧ Hid (OwnL wr (w1.heap.size + 1 + 1) wr.heap.size [(.slice A n c, .ints (genL (flF yL0) k))]) ∧ Hid (Box wr (w1.heap.size) #[.slice cA0 cn0 cc0, .slice cA1 cn1 cc1] 27) ∧ Hid (Box wr (w1.heap.size + 1) #[.int .i64 tI0, .int .i64 tI1] 29) ∧ Below w.heap.size w wr) (fun v i wr => 80 - (intOf i).toNat)
    case atStart => exact ⟨0, _, _, _, by omega, rfl, rfl, rd, OwnL.mono ro (by omega) (by first | omega | (simp [size_drew]; done) | (simp [size_drew]; omega)) (Nat.le_refl _), xc, xt, B2⟩
    case round =>
      obtain ⟨k, vA, vn, vc, hk, rfl, rfl, rd, ro, xc, xt, B9⟩ := hrel
      obtain ⟨w9, hw9⟩ : ∃ x, x = wr := ⟨wr, rfl⟩
      subst hw9
      have rd := rd.out
      have ro := ro.out
      have xc := xc.out
      have xt := xt.out
      have zb_xc := xc.lt
      have zb_xt := xt.lt
      have hsn := Lib.hid (genL_snoc (flF yL0) k)
      have hgl := Lib.hid (genL_len (flF yL0) k)
      have z9 := B9.size
      by_cases hlt : k < 80
      · have hck := ownCell (g := g2) (o := g2o) (n := 80) (c := yc0) (l := yL0) rd (by simp) k (by rw [yl80.out]; omega)
        obtain ⟨hb1, hb2⟩ : 0 ≤ nth yL0 k ∧ nth yL0 k ≤ 1 := by have := bit_of hyb.out (m := k) (by rw [yl80.out]; omega); omega
        go_wp2_with (at_builtin; go_must (refine append_N rfl _ _ rfl (flF yL0 k) _ rfl rfl ro (by first | rfl | simp) (by have := hgl.out; omega) ?_); intro qA qn qc w10 ro_ c10)
        have z10 := c10.size
        (try simp only [World.size_alloc, World.size_setCell, size_drew] at z10)
        have B10 : Below w.heap.size w w10 := Below.trans (b := _) (by repeat (with_reducible (first | assumption | exact Below.refl _ _ | refine Below.alloc ?_ (by first | omega | (simp; done) | (simp; omega)) _ | refine Below.setCell ?_ (by first | omega | (simp; done) | (simp; omega)) _ | refine Below.drew ?_ | refine below_drewN ?_ _))) (c10.below (by omega) (by first | omega | (simp [size_drew]; done) | (simp [size_drew]; omega)))
        clear ro; have ro := ro_; clear ro_
        have rd_ := rd.away c10 (by omega)
        clear rd; have rd := rd_; clear rd_
        have xc_ : Box w10 (w1.heap.size) #[.slice cA0 cn0 cc0, .slice cA1 cn1 cc1] 27 := xc.chg c10 (by omega)
        clear xc; have xc := xc_; clear xc_
        have xt_ : Box w10 (w1.heap.size + 1) #[.int .i64 tI0, .int .i64 tI1] 29 := xt.chg c10 (by omega)
        clear xt; have xt := xt_; clear xt_
        go_wp2
        go_roundw
        case rel => exact ⟨k + 1, _, _, _, by omega, by go_num, rfl, rd, by rw [hsn.out]; exact OwnL.mono ro (by omega) (by first | omega | (simp [size_drew]; done) | (simp [size_drew]; omega)) (Nat.le_refl _), xc, xt, B10⟩
        case measure => simp [intOf]; omega
      · have hkn : k = 80 := by omega
        subst hkn
        have hFB := Lib.hid (flip_bits hB.out)
        have hFn : (genL (flF yL0) 80).length ≤ 1048576 := by rw [genL_len]; omega
        have hA1 := Lib.hid (inLab_yes (inOk_of hD.out hB.out))
        have hA2 := Lib.hid (inLab_yes (inOk_of hD.out hFB.out))
        clear hlt hk
        obtain ⟨cxt_0, cxt_1, fxt_0, fxt_1⟩ := xt.two
        have l_xt_0 : w1.heap.size + 1 < w9.heap.size := by omega
        go_wp2_with fail
        refine (iInputLabels_L tI0 tI1 (RdL.sub (ls2 := [(.slice (some ⟨g2, g2o, none⟩) 80 yc0, .ints yL0)]) (rd).rd (by simp)) yL0n).mono ?_
        rintro e w10 ⟨lA, ln, lc, rfl, ra, b10⟩
        clear cxt_0 cxt_1 fxt_0 fxt_1 l_xt_0
        have z10 := b10.size
        try simp only [World.size_alloc, World.size_setCell, size_drew] at z10
        have B10 : Below w.heap.size w w10 := Below.t b10
        have rd_ := rd.below b10
        clear rd; have rd := rd_; clear rd_
        have ro_ := ro.below b10
        clear ro; have ro := ro_; clear ro_
        have xc_ : Box w10 (w1.heap.size) #[.slice cA0 cn0 cc0, .slice cA1 cn1 cc1] 27 := xc.below b10 (by first | omega | (simp [size_drew]; done) | (simp [size_drew]; omega))
        clear xc; have xc := xc_; clear xc_
        have xt_ : Box w10 (w1.heap.size + 1) #[.int .i64 tI0, .int .i64 tI1] 29 := xt.below b10 (by first | omega | (simp [size_drew]; done) | (simp [size_drew]; omega))
        clear xt; have xt := xt_; clear xt_
        try simp only [World.size_alloc, World.size_setCell, size_drew] at ra
        obtain ⟨cxt_0, cxt_1, fxt_0, fxt_1⟩ := xt.two
        have l_xt_0 : w1.heap.size + 1 < w10.heap.size := by omega
        go_wp2_with fail
        refine (iInputLabels_L tI0 tI1 ro.rd hFn).mono ?_
        rintro e w11 ⟨mA, mn, mc, rfl, rb, b11⟩
        clear cxt_0 cxt_1 fxt_0 fxt_1 l_xt_0
        have z11 := b11.size
        try simp only [World.size_alloc, World.size_setCell, size_drew] at z11
        have B11 : Below w.heap.size w w11 := Below.t b11
        have rd_ := rd.below b11
        clear rd; have rd := rd_; clear rd_
        have ro_ := ro.below b11
        clear ro; have ro := ro_; clear ro_
        have ra_ := ra.below b11
        clear ra; have ra := ra_; clear ra_
        have xc_ : Box w11 (w1.heap.size) #[.slice cA0 cn0 cc0, .slice cA1 cn1 cc1] 27 := xc.below b11 (by first | omega | (simp [size_drew]; done) | (simp [size_drew]; omega))
        clear xc; have xc := xc_; clear xc_
        have xt_ : Box w11 (w1.heap.size + 1) #[.int .i64 tI0, .int .i64 tI1] 29 := xt.below b11 (by first | omega | (simp [size_drew]; done) | (simp [size_drew]; omega))
        clear xt; have xt := xt_; clear xt_
        try simp only [World.size_alloc, World.size_setCell, size_drew] at rb
        obtain ⟨d, hde⟩ : ∃ d, Hid (deltaOf tI0 tI1 = d) := ⟨_, rfl⟩
        obtain ⟨cxt_0, cxt_1, fxt_0, fxt_1⟩ := xt.two
        have l_xt_0 : w1.heap.size + 1 < w11.heap.size := by omega
        go_wp2_with fail
        refine (iDeltaOf_L tI0 tI1).mono ?_
        rintro e w12 ⟨rfl, b12⟩
        clear cxt_0 cxt_1 fxt_0 fxt_1 l_xt_0
        have z12 := b12.size
        try simp only [World.size_alloc, World.size_setCell, size_drew] at z12
        have B12 : Below w.heap.size w w12 := Below.t b12
        have rd_ := rd.below b12
        clear rd; have rd := rd_; clear rd_
        have ro_ := ro.below b12
        clear ro; have ro := ro_; clear ro_
        have ra_ := ra.below b12
        clear ra; have ra := ra_; clear ra_
        have rb_ := rb.below b12
        clear rb; have rb := rb_; clear rb_
        have xc_ : Box w12 (w1.heap.size) #[.slice cA0 cn0 cc0, .slice cA1 cn1 cc1] 27 := xc.below b12 (by first | omega | (simp [size_drew]; done) | (simp [size_drew]; omega))
        clear xc; have xc := xc_; clear xc_
        have xt_ : Box w12 (w1.heap.size + 1) #[.int .i64 tI0, .int .i64 tI1] 29 := xt.below b12 (by first | omega | (simp [size_drew]; done) | (simp [size_drew]; omega))
        clear xt; have xt := xt_; clear xt_
        rw [hde.out]
        obtain rfl : ln = 80 := by rw [ra.len, hA1.out, genL_len]; exact yl80.out
        obtain rfl : mn = 80 := by rw [rb.len, hA2.out, genL_len, genL_len]
        obtain ⟨a1, a2, rfl⟩ := ra.some (by rw [hA1.out, genL_len, yl80.out]; omega)
        obtain ⟨m1, m2, rfl⟩ := rb.some (by rw [hA2.out, genL_len, genL_len]; omega)
        have ld : Hid (lab d = true) := by rw [← hde.out]; exact deltaOf_lab _ _
        have hodd : d % 2 = 1 := by rw [← hde.out]; exact deltaOf_odd hD.out
        obtain ⟨hd0, hd1⟩ := lab_iff.1 ld.out
        obtain ⟨cxt_0, cxt_1, fxt_0, fxt_1⟩ := xt.two
        have l_xt_0 : w1.heap.size + 1 < w12.heap.size := by omega
        have l_xt_1 : w1.heap.size + 1 < w12.heap.size + 1 := by omega
        go_wp2_with fail
        clear cxt_0 cxt_1 fxt_0 fxt_1 l_xt_0 l_xt_1
        generalize hw13 : World.alloc _ _ = w13
        have z13 : w12.heap.size + 1 ≤ w13.heap.size := by rw [← hw13]; simp
        have B13 : Below w.heap.size w w13 := by rw [← hw13]; repeat (with_reducible (first | assumption | exact Below.refl _ _ | refine Below.alloc ?_ (by first | omega | (simp; done) | (simp; omega)) _ | refine Below.setCell ?_ (by first | omega | (simp; done) | (simp; omega)) _ | refine Below.drew ?_ | refine below_drewN ?_ _))
        have hK : ∀ k, k < w12.heap.size → w13.heap[k]? = w12.heap[k]? := by
          intro k hk; rw [← hw13]
          repeat (first | rfl | refine (Below.heap_alloc _ _ _ (by first | omega | (simp; omega))).trans ?_)
        have rd_ := rd.keepBlock (w' := w13) (by omega) (fun k h1 h2 => hK k  (by have := rd.2.1; omega))
        clear rd; have rd := rd_; clear rd_
        have ro_ := ro.keepBlock (w' := w13) (by omega) (fun k h1 h2 => hK k  (by have := ro.2.1; omega))
        clear ro; have ro := ro_; clear ro_
        have ra_ := ra.keepBlock (w' := w13) (by omega) (fun k h1 h2 => hK k  (by have := ra.2.1; omega))
        clear ra; have ra := ra_; clear ra_
        have rb_ := rb.keepBlock (w' := w13) (by omega) (fun k h1 h2 => hK k  (by have := rb.2.1; omega))
        clear rb; have rb := rb_; clear rb_
        have xc_ : Box w13 (w1.heap.size) #[.slice cA0 cn0 cc0, .slice cA1 cn1 cc1] 27 := (by rw [← hw13]; exact (xc.alloc _))
        clear xc; have xc := xc_; clear xc_
        have xt_ : Box w13 (w1.heap.size + 1) #[.int .i64 tI0, .int .i64 tI1] 29 := (by rw [← hw13]; exact (xt.alloc _))
        clear xt; have xt := xt_; clear xt_
        have xd_ : Box w13 (w12.heap.size) #[.int .i64 tI0, .int .i64 (deltaN tI0 tI1)] 29 := (by rw [← hw13]; exact (Box.new (g := w12.heap.size) _ #[.int .i64 tI0, .int .i64 (deltaN tI0 tI1)] 29 (by simp)))
        have xd := xd_; clear xd_
        clear hw13 hK
        go_loopw [12] (fun i wr => ∃ (j l1 h1 l2 h2 : Nat), j ≤ 80 ∧ i = .int .i64 j ∧ Hid (OwnL wr l1 h1 [(.slice (some ⟨a1, a2, none⟩) 80 lc, .ints (inLab tI0 tI1 yL0))]) ∧ Hid (OwnL wr l2 h2 [(.slice (some ⟨m1, m2, none⟩) 80 mc, .ints (inLab tI0 tI1 (genL (flF yL0) 80)))]) ∧ Below w.heap.size w wr) (fun i wr => 80 - (intOf i).toNat)
        case atStart => exact ⟨0, _, _, _, _, by omega, rfl, ra, rb, B13⟩
        case round =>
          obtain ⟨j, l1, h1, l2, h2, hj, rfl, ra, rb, B8⟩ := hrel
          obtain ⟨w8, hw8⟩ : ∃ x, x = wr := ⟨wr, rfl⟩
          subst hw8
          have ra := ra.out
          have rb := rb.out
          have z8 := B8.size
          have r1 := ra.2.1
          have r2 := rb.2.1
          by_cases hlt : j < 80
          · have hne : (bits .xor .i64 (nth (inLab tI0 tI1 yL0) j) (nth (inLab tI0 tI1 (genL (flF yL0) 80)) j) != d) = false := by
              rw [hA1.out, hA2.out, genL_nth (by rw [yl80.out]; exact hlt), genL_nth (by rw [genL_len]; exact hlt), inF, inF, genL_nth hlt, hde.out, flF, flip_x (inputZero_lab (and_true_of hD.out).1 (inB_iff.2 ⟨by omega, by omega⟩)) ld.out (bit_of hyb.out (by rw [yl80.out]; exact hlt))]; simp
            go_wp2_with fail
            refine wp_region_held_drew (S := fun W => W.cell? ⟨a1, a2 + j, none⟩ = some (.int .i64 (nth (inLab tI0 tI1 yL0) j)) ∧ W.cell? ⟨m1, m2 + j, none⟩ = some (.int .i64 (nth (inLab tI0 tI1 (genL (flF yL0) 80)) j))) (by kernel_rfl) ⟨(OwnL.cellAt (ra.drew) j (by rw [hA1.out, genL_len, yl80.out]; exact hlt)), (OwnL.cellAt (rb.drew) j (by rw [hA2.out, genL_len, genL_len]; exact hlt))⟩ (fun hS => ?_)
            (refine tk 0 hS ?_; (try simp only [Act.put, List.setIfInBounds_toArray, List.set_cons_zero, List.set_cons_succ]))
            (refine tk 1 hS ?_; (try simp only [Act.put, List.setIfInBounds_toArray, List.set_cons_zero, List.set_cons_succ]))
            (refine tk 2 hS ?_; (try simp only [Act.put, List.setIfInBounds_toArray, List.set_cons_zero, List.set_cons_succ]))
            (refine tk 3 hS ?_; (try simp only [Act.put, List.setIfInBounds_toArray, List.set_cons_zero, List.set_cons_succ]))
            (refine tk 4 hS ?_; (try simp only [Act.put, List.setIfInBounds_toArray, List.set_cons_zero, List.set_cons_succ]))
            (refine tk 5 hS ?_; (try simp only [Act.put, List.setIfInBounds_toArray, List.set_cons_zero, List.set_cons_succ]))
            (refine tk 6 hS ?_; (try simp only [Act.put, List.setIfInBounds_toArray, List.set_cons_zero, List.set_cons_succ]))
            (refine tk 7 hS ?_; (try simp only [Act.put, List.setIfInBounds_toArray, List.set_cons_zero, List.set_cons_succ]))
            (refine tk 8 hS ?_; (try simp only [Act.put, List.setIfInBounds_toArray, List.set_cons_zero, List.set_cons_succ]))
            (refine tk 9 hS ?_; (try simp only [Act.put, List.setIfInBounds_toArray, List.set_cons_zero, List.set_cons_succ]))
            (refine tk 10 hS ?_; (try simp only [Act.put, List.setIfInBounds_toArray, List.set_cons_zero, List.set_cons_succ]))
            clear hS
            refine wpAnyH_done (by kernel_rfl) ?_ _
            generalize hw9 : World.drew _ = w9
            have z9 : w8.heap.size ≤ w9.heap.size := by rw [← hw9]; simp [size_drew]
            have B9 : Below w.heap.size w w9 := by rw [← hw9]; repeat (with_reducible (first | assumption | exact Below.refl _ _ | refine Below.alloc ?_ (by first | omega | (simp; done) | (simp; omega)) _ | refine Below.setCell ?_ (by first | omega | (simp; done) | (simp; omega)) _ | refine Below.drew ?_ | refine below_drewN ?_ _))
            have hK : ∀ k, k < w8.heap.size → w9.heap[k]? = w8.heap[k]? := by
              intro k hk; rw [← hw9]
              repeat (first | rfl | refine (Below.heap_alloc _ _ _ (by first | omega | (simp; omega))).trans ?_)
            have ra_ := ra.keepBlock (w' := w9) (by omega) (fun k h1 h2 => hK k  (by have := ra.2.1; omega))
            clear ra; have ra := ra_; clear ra_
            have rb_ := rb.keepBlock (w' := w9) (by omega) (fun k h1 h2 => hK k  (by have := rb.2.1; omega))
            clear rb; have rb := rb_; clear rb_
            clear hw9 hK
            go_wp2
            go_roundw
            case rel => exact ⟨j + 1, _, _, _, _, by omega, by go_num, ra, rb, B9⟩
            case measure => simp [intOf]; omega
          · have hj8 : ¬ (j : Int) < 80 := by omega
            go_wp2
            go_ret
            exact ⟨ret_bool (by first | (simp; done) | (simp; omega)), B8⟩
end Go.Proofs.Ytodnahpegecpiaa
namespace Go.Proofs.Ytodnahpegecpiaa
set_option linter.unusedSimpArgs false
set_option linter.unusedVariables false
open Go.ChangeShapes Go.WideShapes Go.ChangeAt Go.RowKit
set_option maxRecDepth 100000 in
theorem lifted_FnFlippedInputs (os : Os) (started : os.Started) (H : Type) (enc : TypeId × Value → H) :
    ReturnsInHanded {} Try.checked os 6 .any (Rows.fnFlippedInputsSpec.pre6 enc Try.prog Try.f6 Rows.fnFlippedInputsRow.domain false) (Rows.fnFlippedInputsSpec.post enc Try.prog Try.f6 false true false false) := by
  refine returnsInHanded_of_change (C := Try.checked) ownKnob_none started (by kernel_rfl) Try.func6
    (ChangeSpec.witness6 (enc := enc) (C := Try.checked) false ⟨#[], #[.slice none 0 0], []⟩ 8 (by kernel_rfl) (by kernel_rfl) (by kernel_rfl) (by kernel_rfl)) ?_
  intro W base args ds gs before hval0 hW hcnd _
  have hval : ∀ (j : Nat) t v, Try.f6.params[j]? = some t → args[j]? = some v → Value.okWide Try.prog W .any base t v := hval0
  have hW2 := hW
  obtain ⟨p, q, hA0, hV, rfl, hfz, hnd⟩ := hW
  have hA : DataW.TrodAll enc Try.prog W 0 (fun _ => true) true Try.f6.params.toList args.toList ds p := hA0
  rw [Try.params6] at hA hval
  obtain ⟨v0, vs0, d0, ds0, p0, q0, hargs, rfl, rfl, h0, r0⟩ := trodAll_cons hA
  obtain ⟨rfl, rfl, rfl⟩ := trodAll_nil r0
  obtain rfl : args = #[v0] := by cases args; simp_all
  obtain ⟨rfl, rfl⟩ := trodVars_none hV
  have k0 := h0
  have lt0 : ∀ x ∈ p0, x.block < W.heap.size := by obtain ⟨m, hm⟩ := k0; exact DataW.trod_lt m _ _ _ hm
  obtain ⟨A0, n0, c0, rfl, hx0⟩ := open_Bytes (hval 0 22 v0 rfl rfl) h0
  clear hA0 hval0
  refine (walk_FnFlippedInputs A0 n0 c0 W hx0).mono fun e W2 ⟨he, bel⟩ => ?_
  subst he
  exact ⟨_, rfl, _, _, _, [], _, [], hW2, trodAll_mk1 (shut_bool Try.underlying4 _), (trodAll_cons_mk (Below.trod laidOut_yes (by kernel_rfl) (of_decide_eq_true (by kernel_rfl)) k0 bel lt0) trodAll_mk0), rfl, bel.frame _, fun h => by cases h⟩
theorem facts_FnFlippedInputs : joinedFacts Try.prog 6 Try.f6 Rows.fnFlippedInputsSpec Rows.fnFlippedInputsRow = true := by
  unfold joinedFacts
  rw [mayEnter_yes, liftsFinal_no, make_cut]
  kernel_rfl
theorem wrap_FnFlippedInputs : Try.f6.isWrapper Try.prog Rows.fnFlippedInputsRow.wrapper Rows.fnFlippedInputsRow.mainSum := by
  unfold Func.isWrapper
  rw [if_neg (of_decide_eq_false (by kernel_rfl))]
  exact ⟨rfl, rfl⟩
theorem inst_FnFlippedInputs : Try.f6.isInstance Try.prog Rows.fnFlippedInputsRow.origin Rows.fnFlippedInputsRow.targs := of_decide_eq_true (by kernel_rfl)
theorem named_FnFlippedInputs : Try.prog.funcNamed Rows.fnFlippedInputsRow.func = some 6 := by kernel_rfl
theorem FnFlippedInputs_holds : Rows.FnFlippedInputsSaid :=
  OpenClaim.holds_of_wide 6 Try.f6 rfl rfl rfl rfl rfl rfl rfl ⟨rfl, rfl, rfl, rfl, rfl⟩ rfl rfl rfl rfl rfl named_FnFlippedInputs Try.func6 facts_FnFlippedInputs
    inst_FnFlippedInputs wrap_FnFlippedInputs
    (fun os started H enc _ => lifted_FnFlippedInputs os started H enc)
#print axioms FnFlippedInputs_holds
end Go.Proofs.Ytodnahpegecpiaa

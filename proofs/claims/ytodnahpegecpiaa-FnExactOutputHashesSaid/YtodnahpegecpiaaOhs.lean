/- Contracts of OutputHashes. Printed by mac2.py. -/
import Derived.Test.YtodnahpegecpiaaGridA
import Derived.Test.YtodnahpegecpiaaPuo
namespace Go.Proofs.Ytodnahpegecpiaa
set_option linter.unusedSimpArgs false
set_option linter.unusedVariables false
open Go.RowKit
def ohF (o : List Int) (d : Int) (zs : List Int) (k : Nat) : List Int := [hashI (nth zs (nth o k).toNat) 999999, hashI (bits .xor .i64 (nth zs (nth o k).toNat) d) 999999]
def ohL (l : List (Int × Int × Int)) (o : List Int) (d : Int) (zs ts : List Int) : List (List Int) := if gbOk l o d zs ts then genLL (ohF o d zs) o.length else []
theorem ohL_yes {l : List (Int × Int × Int)} {o zs ts : List Int} {d : Int} (h : gbOk l o d zs ts = true) : ohL l o d zs ts = genLL (ohF o d zs) o.length := by simp [ohL, h]
theorem ohL_no {l : List (Int × Int × Int)} {o zs ts : List Int} {d : Int} (h : gbOk l o d zs ts = false) : ohL l o d zs ts = [] := by simp [ohL, h]
theorem ohL_bd (l : List (Int × Int × Int)) {o : List Int} (d : Int) (zs ts : List Int) (h : o.length ≤ 1048576) : BdLL (ohL l o d zs ts) := by
  unfold ohL; split
  · exact genLL_bd _ _ 2 (fun _ => rfl) h (Nat.le_refl _)
  · exact BdLL_nil
set_option maxRecDepth 100000 in
set_option maxHeartbeats 2000000 in
theorem sOutputHashes_L {cA0 : Option Addr} {cn0 cc0 : Nat} {cL0 : List (Int × Int × Int)} {cA1 : Option Addr} {cn1 cc1 : Nat} {cL1 : List Int} {gA1 : Option Addr} {gn1 gc1 : Nat} {gL1 : List Int} {gA2 : Option Addr} {gn2 gc2 : Nat} {gL2 : List Int} {w : World} (cH : RdL w [((.slice cA0 cn0 cc0), .gates cL0), ((.slice cA1 cn1 cc1), .ints cL1)]) (cL0n : cL0.length ≤ 1048576) (cL1n : cL1.length ≤ 1048576) (gI0 : Int) (gH : RdL w [((.slice gA1 gn1 gc1), .ints gL1), ((.slice gA2 gn2 gc2), .ints gL2)]) (gL1n : gL1.length ≤ 1048576) (gL2n : gL2.length ≤ 1048576) :
    Calls Try.prog 74 #[.agg #[(.slice cA0 cn0 cc0), (.slice cA1 cn1 cc1)], .agg #[.int .i64 gI0, (.slice gA1 gn1 gc1), (.slice gA2 gn2 gc2)]] w fun e w' => ∃ rA0 rn0 rc0, e = .returned (.slice rA0 rn0 rc0) ∧ OwnG w' w.heap.size w'.heap.size (.slice rA0 rn0 rc0) (ohL cL0 cL1 gI0 gL1 gL2) ∧ Below w.heap.size w w' := by
  have cL0g : Gates w cA0 cn0 cL0 := RdG.toG (cH ((.slice cA0 cn0 cc0), .gates cL0) (by simp))
  have cL0l := Lib.hid cL0g.1
  have cL0m : cn0 ≤ 1048576 := by rw [← cL0l.out]; exact cL0n
  have cL1i : Ints w cA1 cn1 cL1 := Rd.toInts (cH ((.slice cA1 cn1 cc1), .ints cL1) (by simp))
  have cL1l := Lib.hid cL1i.len
  have cL1m : cn1 ≤ 1048576 := by rw [← cL1l.out]; exact cL1n
  have gL1i : Ints w gA1 gn1 gL1 := Rd.toInts (gH ((.slice gA1 gn1 gc1), .ints gL1) (by simp))
  have gL1l := Lib.hid gL1i.len
  have gL1m : gn1 ≤ 1048576 := by rw [← gL1l.out]; exact gL1n
  have gL2i : Ints w gA2 gn2 gL2 := Rd.toInts (gH ((.slice gA2 gn2 gc2), .ints gL2) (by simp))
  have gL2l := Lib.hid gL2i.len
  have gL2m : gn2 ≤ 1048576 := by rw [← gL2l.out]; exact gL2n
  cases k1 : gbOk cL0 cL1 gI0 gL1 gL2 with
  | false =>
    go_enter Try.func74, Try.ntmps74
    go_wp2_with fail
    generalize hw1 : World.alloc _ _ = w1
    have z1 : w.heap.size + 1 + 1 + 1 ≤ w1.heap.size := by rw [← hw1]; simp
    have B1 : Below w.heap.size w w1 := by rw [← hw1]; repeat (with_reducible (first | assumption | exact Below.refl _ _ | refine Below.alloc ?_ (by first | omega | (simp; done) | (simp; omega)) _ | refine Below.setCell ?_ (by first | omega | (simp; done) | (simp; omega)) _ | refine Below.drew ?_ | refine below_drewN ?_ _))
    have xc_ : Box w1 (w.heap.size) #[(.slice cA0 cn0 cc0), (.slice cA1 cn1 cc1)] 27 := (by rw [← hw1]; exact (((Box.new (g := w.heap.size) _ #[(.slice cA0 cn0 cc0), (.slice cA1 cn1 cc1)] 27 (by simp)).alloc _).alloc _))
    have xc := xc_; clear xc_
    have xg_ : Box w1 (w.heap.size + 1) #[.int .i64 gI0, (.slice gA1 gn1 gc1), (.slice gA2 gn2 gc2)] 33 := (by rw [← hw1]; exact ((Box.new (g := w.heap.size + 1) _ #[.int .i64 gI0, (.slice gA1 gn1 gc1), (.slice gA2 gn2 gc2)] 33 (by simp)).alloc _))
    have xg := xg_; clear xg_
    have xo_ : Box w1 (w.heap.size + 1 + 1) #[] 25 := (by rw [← hw1]; exact (Box.new (g := w.heap.size + 1 + 1) _ #[] 25 (by simp)))
    have xo := xo_; clear xo_
    clear hw1
    have ro := OwnG.lit0 xo
    refine wp_loop_rounds 1 ?_
    rw [rounds_succ]
    by_cases h0 : cn1 = 0
    · subst h0
      obtain ⟨cxc_0, cxc_1, fxc_0, fxc_1⟩ := xc.two
      have l_xc_0 : w.heap.size < w1.heap.size := by omega
      go_wp2
      refine bodyPost_ret (v := .slice (some ⟨w.heap.size + 1 + 1, 0, none⟩) 0 0) (by simp [results, go_sem, Try.results74]) rfl ⟨_, _, _, rfl, ?_, ?_⟩
      · rw [ohL_no k1]; exact OwnG.mono ro (by omega) (by first | omega | (simp [size_drew]; done) | (simp [size_drew]; omega)) (Nat.le_refl _)
      · repeat (with_reducible (first | assumption | exact Below.refl _ _ | refine Below.alloc ?_ (by first | omega | (simp; done) | (simp; omega)) _ | refine Below.setCell ?_ (by first | omega | (simp; done) | (simp; omega)) _ | refine Below.drew ?_ | refine below_drewN ?_ _))
    · have h1 : 0 < cn1 := by omega
      obtain ⟨cxc_0, cxc_1, fxc_0, fxc_1⟩ := xc.two
      have l_xc_0 : w.heap.size < w1.heap.size := by omega
      obtain ⟨cxg_0, cxg_1, cxg_2, fxg_0, fxg_1, fxg_2⟩ := xg.three
      have l_xg_0 : w.heap.size + 1 < w1.heap.size := by omega
      go_wp2_with fail
      refine (sGarbledOk_L (RdL.b cH) cL0n cL1n gI0 (RdL.b gH) gL1n gL2n).mono ?_
      rintro e w2 ⟨rfl, b2⟩
      clear cxc_0 cxc_1 fxc_0 fxc_1 l_xc_0 cxg_0 cxg_1 cxg_2 fxg_0 fxg_1 fxg_2 l_xg_0
      have z2 := b2.size
      try simp only [World.size_alloc, World.size_setCell, size_drew] at z2
      have B2 : Below w.heap.size w w2 := Below.t b2
      have ro_ := ro.below b2
      clear ro; have ro := ro_; clear ro_
      have xc_ : Box w2 (w.heap.size) #[(.slice cA0 cn0 cc0), (.slice cA1 cn1 cc1)] 27 := xc.below b2 (by first | omega | (simp [size_drew]; done) | (simp [size_drew]; omega))
      clear xc; have xc := xc_; clear xc_
      have xg_ : Box w2 (w.heap.size + 1) #[.int .i64 gI0, (.slice gA1 gn1 gc1), (.slice gA2 gn2 gc2)] 33 := xg.below b2 (by first | omega | (simp [size_drew]; done) | (simp [size_drew]; omega))
      clear xg; have xg := xg_; clear xg_
      rw [k1]
      obtain ⟨cxc_0, cxc_1, fxc_0, fxc_1⟩ := xc.two
      have l_xc_0 : w.heap.size < w2.heap.size := by omega
      go_wp2
      refine bodyPost_ret (v := .slice (some ⟨w.heap.size + 1 + 1, 0, none⟩) 0 0) (by simp [results, go_sem, Try.results74]) rfl ⟨_, _, _, rfl, ?_, ?_⟩
      · rw [ohL_no k1]; exact OwnG.mono ro (by omega) (by first | omega | (simp [size_drew]; done) | (simp [size_drew]; omega)) (Nat.le_refl _)
      · repeat (with_reducible (first | assumption | exact Below.refl _ _ | refine Below.alloc ?_ (by first | omega | (simp; done) | (simp; omega)) _ | refine Below.setCell ?_ (by first | omega | (simp; done) | (simp; omega)) _ | refine Below.drew ?_ | refine below_drewN ?_ _))
  | true =>
    go_enter Try.func74, Try.ntmps74
    have HO2 := Lib.hid k1
    have HK := Lib.hid (gb_circ k1)
    have HO := Lib.hid cL1i
    have HZ := Lib.hid gL1i
    have hzn := Lib.hid (show gn1 = cn0 by have := (gb_zs k1).1; have := gL1l.out; have := cL0l.out; omega)
    go_wp2_with fail
    generalize hw1 : World.alloc _ _ = w1
    have z1 : w.heap.size + 1 + 1 + 1 ≤ w1.heap.size := by rw [← hw1]; simp
    have B1 : Below w.heap.size w w1 := by rw [← hw1]; repeat (with_reducible (first | assumption | exact Below.refl _ _ | refine Below.alloc ?_ (by first | omega | (simp; done) | (simp; omega)) _ | refine Below.setCell ?_ (by first | omega | (simp; done) | (simp; omega)) _ | refine Below.drew ?_ | refine below_drewN ?_ _))
    have xc_ : Box w1 (w.heap.size) #[(.slice cA0 cn0 cc0), (.slice cA1 cn1 cc1)] 27 := (by rw [← hw1]; exact (((Box.new (g := w.heap.size) _ #[(.slice cA0 cn0 cc0), (.slice cA1 cn1 cc1)] 27 (by simp)).alloc _).alloc _))
    have xc := xc_; clear xc_
    have xg_ : Box w1 (w.heap.size + 1) #[.int .i64 gI0, (.slice gA1 gn1 gc1), (.slice gA2 gn2 gc2)] 33 := (by rw [← hw1]; exact ((Box.new (g := w.heap.size + 1) _ #[.int .i64 gI0, (.slice gA1 gn1 gc1), (.slice gA2 gn2 gc2)] 33 (by simp)).alloc _))
    have xg := xg_; clear xg_
    have xo_ : Box w1 (w.heap.size + 1 + 1) #[] 25 := (by rw [← hw1]; exact (Box.new (g := w.heap.size + 1 + 1) _ #[] 25 (by simp)))
    have xo := xo_; clear xo_
    clear hw1
    have ro := OwnG.lit0 xo
    go_loopw [5, 6] (fun v i wr => ∃ (k : Nat) (A : Option Addr) (n c : Nat), k ≤ cn1 ∧ i = .int .i64 k ∧ v = .slice A n c ∧ Hid (OwnG wr (w.heap.size + 1 + 1) wr.heap.size (.slice A n c) (genLL (ohF cL1 gI0 gL1) k)) ∧ Hid (Box wr (w.heap.size) #[(.slice cA0 cn0 cc0), (.slice cA1 cn1 cc1)] 27) ∧ Hid (Box wr (w.heap.size + 1) #[.int .i64 gI0, (.slice gA1 gn1 gc1), (.slice gA2 gn2 gc2)] 33) ∧ Below w.heap.size w wr) (fun v i wr => cn1 - (intOf i).toNat)
    case atStart => exact ⟨0, _, _, _, by omega, rfl, rfl, OwnG.mono ro (by omega) (by first | omega | (simp [size_drew]; done) | (simp [size_drew]; omega)) (Nat.le_refl _), xc, xg, B1⟩
    case round =>
      obtain ⟨k, vA, vn, vc, hk, rfl, rfl, ro, xc, xg, B9⟩ := hrel
      obtain ⟨w9, hw9⟩ : ∃ x, x = wr := ⟨wr, rfl⟩
      subst hw9
      have ro := ro.out
      have xc := xc.out
      have zb_xc := xc.lt
      have xg := xg.out
      have zb_xg := xg.lt
      have hsn := Lib.hid (genLL_snoc (ohF cL1 gI0 gL1) k)
      have hgl := Lib.hid (genLL_len (ohF cL1 gI0 gL1) k)
      have z9 := B9.size
      have hro := ro.lo
      by_cases hlt : k < cn1
      · obtain ⟨cxc_0, cxc_1, fxc_0, fxc_1⟩ := xc.two
        have l_xc_0 : w.heap.size < w9.heap.size := by omega
        obtain ⟨cxg_0, cxg_1, cxg_2, fxg_0, fxg_1, fxg_2⟩ := xg.three
        have l_xg_0 : w.heap.size + 1 < w9.heap.size := by omega
        go_wp2_with fail
        refine (sGarbledOk_L (RdL.b cH) cL0n cL1n gI0 (RdL.b gH) gL1n gL2n).mono ?_
        rintro e w10 ⟨rfl, b10⟩
        clear cxc_0 cxc_1 fxc_0 fxc_1 l_xc_0 cxg_0 cxg_1 cxg_2 fxg_0 fxg_1 fxg_2 l_xg_0
        have z10 := b10.size
        try simp only [World.size_alloc, World.size_setCell, size_drew] at z10
        have B10 : Below w.heap.size w w10 := Below.t b10
        have ro_ := ro.below b10
        clear ro; have ro := ro_; clear ro_
        have xc_ : Box w10 (w.heap.size) #[(.slice cA0 cn0 cc0), (.slice cA1 cn1 cc1)] 27 := xc.below b10 (by first | omega | (simp [size_drew]; done) | (simp [size_drew]; omega))
        clear xc; have xc := xc_; clear xc_
        have xg_ : Box w10 (w.heap.size + 1) #[.int .i64 gI0, (.slice gA1 gn1 gc1), (.slice gA2 gn2 gc2)] 33 := xg.below b10 (by first | omega | (simp [size_drew]; done) | (simp [size_drew]; omega))
        clear xg; have xg := xg_; clear xg_
        rw [k1]
        clear k1
        obtain ⟨m, hm, hmlt⟩ := circ_out HK.out (k := k) (by rw [cL1l.out]; exact hlt)
        have hm1 := Lib.hid hm
        have hmlt : m < cn0 := by rw [← cL0l.out]; exact hmlt
        obtain ⟨g, o, rfl, hg, hc⟩ := HO.out.block (by omega)
        have hco := hc k hlt
        clear hc
        rw [hm1.out] at hco
        clear hm
        have hmz : m < gn1 := by have := hzn.out; omega
        obtain ⟨g2, g2o, rfl, g2h, hc⟩ := HZ.out.block (by omega)
        have hcz := hc m (by omega)
        clear hc
        have hF := Lib.hid (show ohF cL1 gI0 gL1 k = [hashI (nth gL1 m) 999999, hashI (bits .xor .i64 (nth gL1 m) gI0) 999999] by rw [ohF, hm1.out]; rfl)
        obtain ⟨cxc_0, cxc_1, fxc_0, fxc_1⟩ := xc.two
        have l_xc_0 : w.heap.size < w10.heap.size := by omega
        obtain ⟨cxg_0, cxg_1, cxg_2, fxg_0, fxg_1, fxg_2⟩ := xg.three
        have l_xg_0 : w.heap.size + 1 < w10.heap.size := by omega
        go_wp2_with fail
        clear cxc_0 cxc_1 fxc_0 fxc_1 l_xc_0 cxg_0 cxg_1 cxg_2 fxg_0 fxg_1 fxg_2 l_xg_0
        refine wp_region_held_drew (S := fun W => W.cell? ⟨w.heap.size, 0, none⟩ = some ((.slice cA0 cn0 cc0)) ∧ W.cell? ⟨w.heap.size, 1, none⟩ = some (.slice (some ⟨g, o, none⟩) cn1 cc1) ∧ W.cell? ⟨w.heap.size + 1, 0, none⟩ = some (.int .i64 gI0) ∧ W.cell? ⟨w.heap.size + 1, 1, none⟩ = some (.slice (some ⟨g2, g2o, none⟩) gn1 gc1) ∧ W.cell? ⟨w.heap.size + 1, 2, none⟩ = some ((.slice gA2 gn2 gc2)) ∧ W.cell? ⟨g, o + k, none⟩ = some (.int .i64 (m : Int)) ∧ W.cell? ⟨g2, g2o + m, none⟩ = some (.int .i64 (nth gL1 m))) (by kernel_rfl) ⟨xc.drew.two.1, xc.drew.two.2.1, xg.drew.three.1, xg.drew.three.2.1, xg.drew.three.2.2.1, (cellB hg hco), (cellB g2h hcz)⟩ (fun hS => ?_)
        (refine tk 0 hS ?_; (try simp only [Act.put, layA, layB, layC]))
        (refine tk 1 hS ?_; (try simp only [Act.put, layA, layB, layC]))
        (refine tk 2 hS ?_; (try simp only [Act.put, layA, layB, layC]))
        (refine tk 3 hS ?_; (try simp only [Act.put, layA, layB, layC]))
        (refine tk 4 hS ?_; (try simp only [Act.put, layA, layB, layC]))
        (refine tk 5 hS ?_; (try simp only [Act.put, layA, layB, layC]))
        (refine tk 6 hS ?_; (try simp only [Act.put, layA, layB, layC]))
        (refine tk 7 hS ?_; (try simp only [Act.put, layA, layB, layC]))
        (refine tk 8 hS ?_; (try simp only [Act.put, layA, layB, layC]))
        (refine tk 9 hS ?_; (try simp only [Act.put, layA, layB, layC]))
        clear hS
        refine wpAnyH_done (by kernel_rfl) ?_ _
        generalize hw11 : World.drew _ = w11
        have z11 : w10.heap.size ≤ w11.heap.size := by rw [← hw11]; simp [size_drew]
        have B11 : Below w.heap.size w w11 := by rw [← hw11]; repeat (with_reducible (first | assumption | exact Below.refl _ _ | refine Below.alloc ?_ (by first | omega | (simp; done) | (simp; omega)) _ | refine Below.setCell ?_ (by first | omega | (simp; done) | (simp; omega)) _ | refine Below.drew ?_ | refine below_drewN ?_ _))
        have hK : ∀ k, k < w10.heap.size → w11.heap[k]? = w10.heap[k]? := by
          intro k hk; rw [← hw11]
          repeat (first | rfl | refine (Below.heap_alloc _ _ _ (by first | omega | (simp; omega))).trans ?_)
        have ro_ := ro.keepBlock (w' := w11) (by omega) (fun k h1 h2 => hK k  (by have := ro.lo.2; omega))
        clear ro; have ro := ro_; clear ro_
        have xc_ : Box w11 (w.heap.size) #[(.slice cA0 cn0 cc0), .slice (some ⟨g, o, none⟩) cn1 cc1] 27 := (by rw [← hw11]; exact xc)
        clear xc; have xc := xc_; clear xc_
        have xg_ : Box w11 (w.heap.size + 1) #[.int .i64 gI0, .slice (some ⟨g2, g2o, none⟩) gn1 gc1, (.slice gA2 gn2 gc2)] 33 := (by rw [← hw11]; exact xg)
        clear xg; have xg := xg_; clear xg_
        clear hw11 hK
        obtain ⟨cxg_0, cxg_1, cxg_2, fxg_0, fxg_1, fxg_2⟩ := xg.three
        have l_xg_0 : w.heap.size + 1 < w11.heap.size := by omega
        go_wp2_with fail
        clear cxg_0 cxg_1 cxg_2 fxg_0 fxg_1 fxg_2 l_xg_0
        refine wp_region_held_drew (S := fun W => W.cell? ⟨w.heap.size + 1, 0, none⟩ = some (.int .i64 gI0) ∧ W.cell? ⟨w.heap.size + 1, 1, none⟩ = some (.slice (some ⟨g2, g2o, none⟩) gn1 gc1) ∧ W.cell? ⟨w.heap.size + 1, 2, none⟩ = some ((.slice gA2 gn2 gc2))) (by kernel_rfl) ⟨xg.drew.three.1, xg.drew.three.2.1, xg.drew.three.2.2.1⟩ (fun hS => ?_)
        (refine tk 0 hS ?_; (try simp only [Act.put, layA, layB, layC]))
        (refine tk 1 hS ?_; (try simp only [Act.put, layA, layB, layC]))
        (refine tk 3 hS ?_; (try simp only [Act.put, layA, layB, layC]))
        (refine tk 4 hS ?_; (try simp only [Act.put, layA, layB, layC]))
        (refine tk 5 hS ?_; (try simp only [Act.put, layA, layB, layC]))
        (refine tk 6 hS ?_; (try simp only [Act.put, layA, layB, layC]))
        refine on 2 ?_
        refine callH (by go_simp; (first | done | with_reducible rfl | exact ⟨rfl, rfl⟩)) ?_
        go_at_call 101
        refine (l20Hash_any _ _).mono ?_
        rintro e w_ ⟨rfl, rfl⟩
        refine ⟨_, rfl, hS, fun hS => ?_⟩
        (try simp only [Act.put, layA, layB, layC])
        refine on 7 ?_
        refine callH (by go_simp; (first | done | with_reducible rfl | exact ⟨rfl, rfl⟩)) ?_
        go_at_call 101
        refine (l20Hash_any _ _).mono ?_
        rintro e w_ ⟨rfl, rfl⟩
        refine ⟨_, rfl, hS, fun hS => ?_⟩
        (try simp only [Act.put, layA, layB, layC])
        refine on 8 ?_
        refine valueH (by go_simp; (first | done | with_reducible rfl | exact ⟨rfl, rfl⟩)) ?_ (fun hS_ => ?_)
        · exact ⟨(xg.alloc _).drew.three.1, (xg.alloc _).drew.three.2.1, (xg.alloc _).drew.three.2.2.1⟩
        clear hS
        have hS := hS_
        clear hS_
        (try simp only [Act.put, layA, layB, layC])
        refine on 9 ?_
        refine valueH (by go_simp; (first | done | with_reducible rfl | exact ⟨rfl, rfl⟩)) ?_ (fun hS_ => ?_)
        · exact ⟨((xg.alloc _).alloc _).drew.three.1, ((xg.alloc _).alloc _).drew.three.2.1, ((xg.alloc _).alloc _).drew.three.2.2.1⟩
        clear hS
        have hS := hS_
        clear hS_
        (try simp only [Act.put, layA, layB, layC])
        refine on 10 ?_
        refine appendH_G (.tmp 30) (.tmp 39) rfl rfl (((ro.alloc _).alloc _).drew) rfl ((Box.new (g := w11.heap.size + 1) _ #[.slice (some ⟨w11.heap.size, 0, none⟩) 2 2] 25 (by simp)).drew) (OwnL.lit2 (((Box.new (g := w11.heap.size) _ #[.int .i64 (hashI (nth gL1 m) 999999), .int .i64 (hashI (bits .xor .i64 (nth gL1 m) gI0) 999999)] 3 (by simp)).alloc _).drew)) (by omega) (by have := hgl.out; omega) ?_
        intro qA qn qc w12 ro_ c12
        have z12 := c12.size
        (try simp only [World.size_alloc, World.size_setCell, size_drew] at z12)
        have B12 : Below w.heap.size w w12 := Below.trans (b := _) (by repeat (with_reducible (first | assumption | exact Below.refl _ _ | refine Below.alloc ?_ (by first | omega | (simp; done) | (simp; omega)) _ | refine Below.setCell ?_ (by first | omega | (simp; done) | (simp; omega)) _ | refine Below.drew ?_ | refine below_drewN ?_ _))) (c12.below (by omega) (by first | omega | (simp [size_drew]; done) | (simp [size_drew]; omega)))
        clear ro; have ro := ro_; clear ro_
        have xc_ : Box w12 (w.heap.size) #[(.slice cA0 cn0 cc0), .slice (some ⟨g, o, none⟩) cn1 cc1] 27 := (((xc.alloc _).alloc _).drew).chg c12 (by omega)
        clear xc; have xc := xc_; clear xc_
        have xg_ : Box w12 (w.heap.size + 1) #[.int .i64 gI0, .slice (some ⟨g2, g2o, none⟩) gn1 gc1, (.slice gA2 gn2 gc2)] 33 := (((xg.alloc _).alloc _).drew).chg c12 (by omega)
        clear xg; have xg := xg_; clear xg_
        have xl_ : Box w12 (w11.heap.size) #[.int .i64 (hashI (nth gL1 m) 999999), .int .i64 (hashI (bits .xor .i64 (nth gL1 m) gI0) 999999)] 3 := (((Box.new (g := w11.heap.size) _ #[.int .i64 (hashI (nth gL1 m) 999999), .int .i64 (hashI (bits .xor .i64 (nth gL1 m) gI0) 999999)] 3 (by simp)).alloc _).drew).chg c12 (by omega)
        have xl := xl_; clear xl_
        have xr_ : Box w12 (w11.heap.size + 1) #[.slice (some ⟨w11.heap.size, 0, none⟩) 2 2] 25 := ((Box.new (g := w11.heap.size + 1) _ #[.slice (some ⟨w11.heap.size, 0, none⟩) 2 2] 25 (by simp)).drew).chg c12 (by omega)
        have xr := xr_; clear xr_
        clear xr xl
        refine ⟨⟨xg.three.1, xg.three.2.1, xg.three.2.2.1⟩, fun hS_ => ?_⟩
        clear hS; have hS := hS_; clear hS_
        (try simp only [Act.put, layA, layB, layC])
        (refine tk 11 hS ?_; (try simp only [Act.put, layA, layB, layC]))
        clear hS
        refine wpAnyH_done (by kernel_rfl) ?_ _
        rw [← hF.out] at ro
        go_wp2
        go_roundw
        case rel => exact ⟨k + 1, _, _, _, by omega, by go_num, rfl, by rw [hsn.out]; exact OwnG.mono ro (by omega) (by first | omega | (simp [size_drew]; done) | (simp [size_drew]; omega)) (Nat.le_refl _), xc, xg, B12⟩
        case measure => simp [intOf]; omega
      · have hkn : k = cn1 := by omega
        obtain ⟨cxc_0, cxc_1, fxc_0, fxc_1⟩ := xc.two
        have l_xc_0 : w.heap.size < w9.heap.size := by omega
        go_wp2
        refine bodyPost_ret (v := .slice vA vn vc) (by simp [results, go_sem, Try.results74]) rfl ⟨_, _, _, rfl, ?_, ?_⟩
        · rw [ohL_yes HO2.out, cL1l.out, ← hkn]; exact OwnG.mono ro (by omega) (by first | omega | (simp [size_drew]; done) | (simp [size_drew]; omega)) (Nat.le_refl _)
        · repeat (with_reducible (first | assumption | exact Below.refl _ _ | refine Below.alloc ?_ (by first | omega | (simp; done) | (simp; omega)) _ | refine Below.setCell ?_ (by first | omega | (simp; done) | (simp; omega)) _ | refine Below.drew ?_ | refine below_drewN ?_ _))
set_option maxRecDepth 100000 in
set_option maxHeartbeats 2000000 in
theorem iOutputHashes_L {cA0 : Option Addr} {cn0 cc0 : Nat} {cL0 : List (Int × Int × Int)} {cA1 : Option Addr} {cn1 cc1 : Nat} {cL1 : List Int} {gA1 : Option Addr} {gn1 gc1 : Nat} {gL1 : List Int} {gA2 : Option Addr} {gn2 gc2 : Nat} {gL2 : List Int} {w : World} (cH : RdL w [((.slice cA0 cn0 cc0), .gates cL0), ((.slice cA1 cn1 cc1), .ints cL1)]) (cL0n : cL0.length ≤ 1048576) (cL1n : cL1.length ≤ 1048576) (gI0 : Int) (gH : RdL w [((.slice gA1 gn1 gc1), .ints gL1), ((.slice gA2 gn2 gc2), .ints gL2)]) (gL1n : gL1.length ≤ 1048576) (gL2n : gL2.length ≤ 1048576) :
    Calls Try.prog 75 #[.agg #[(.slice cA0 cn0 cc0), (.slice cA1 cn1 cc1)], .agg #[.int .i64 gI0, (.slice gA1 gn1 gc1), (.slice gA2 gn2 gc2)]] w fun e w' => ∃ rA0 rn0 rc0, e = .returned (.slice rA0 rn0 rc0) ∧ OwnG w' w.heap.size w'.heap.size (.slice rA0 rn0 rc0) (ohL cL0 cL1 gI0 gL1 gL2) ∧ Below w.heap.size w w' := by
  have cL0g : Gates w cA0 cn0 cL0 := RdG.toG (cH ((.slice cA0 cn0 cc0), .gates cL0) (by simp))
  have cL0l := Lib.hid cL0g.1
  have cL0m : cn0 ≤ 1048576 := by rw [← cL0l.out]; exact cL0n
  have cL1i : Ints w cA1 cn1 cL1 := Rd.toInts (cH ((.slice cA1 cn1 cc1), .ints cL1) (by simp))
  have cL1l := Lib.hid cL1i.len
  have cL1m : cn1 ≤ 1048576 := by rw [← cL1l.out]; exact cL1n
  have gL1i : Ints w gA1 gn1 gL1 := Rd.toInts (gH ((.slice gA1 gn1 gc1), .ints gL1) (by simp))
  have gL1l := Lib.hid gL1i.len
  have gL1m : gn1 ≤ 1048576 := by rw [← gL1l.out]; exact gL1n
  have gL2i : Ints w gA2 gn2 gL2 := Rd.toInts (gH ((.slice gA2 gn2 gc2), .ints gL2) (by simp))
  have gL2l := Lib.hid gL2i.len
  have gL2m : gn2 ≤ 1048576 := by rw [← gL2l.out]; exact gL2n
  cases k1 : gbOk cL0 cL1 gI0 gL1 gL2 with
  | false =>
    go_enter Try.func75, Try.ntmps75
    go_wp2_with fail
    refine (iGarbledOk_L (RdL.b cH) cL0n cL1n gI0 (RdL.b gH) gL1n gL2n).mono ?_
    rintro e w1 ⟨rfl, b1⟩
    have z1 := b1.size
    try simp only [World.size_alloc, World.size_setCell, size_drew] at z1
    have B1 : Below w.heap.size w w1 := Below.t b1
    have xc_ : Box w1 (w.heap.size) #[(.slice cA0 cn0 cc0), (.slice cA1 cn1 cc1)] 27 := ((Box.new (g := w.heap.size) _ #[(.slice cA0 cn0 cc0), (.slice cA1 cn1 cc1)] 27 (by simp)).alloc _).below b1 (by first | omega | (simp [size_drew]; done) | (simp [size_drew]; omega))
    have xc := xc_; clear xc_
    have xg_ : Box w1 (w.heap.size + 1) #[.int .i64 gI0, (.slice gA1 gn1 gc1), (.slice gA2 gn2 gc2)] 33 := (Box.new (g := w.heap.size + 1) _ #[.int .i64 gI0, (.slice gA1 gn1 gc1), (.slice gA2 gn2 gc2)] 33 (by simp)).below b1 (by first | omega | (simp [size_drew]; done) | (simp [size_drew]; omega))
    have xg := xg_; clear xg_
    rw [k1]
    go_wp2
    refine bodyPost_ret (v := .slice none 0 0) (by simp [results, go_sem, Try.results75]) rfl ⟨_, _, _, rfl, ?_, ?_⟩
    · rw [ohL_no k1]; exact OwnG.none (by first | omega | (simp [size_drew]; done) | (simp [size_drew]; omega))
    · repeat (with_reducible (first | assumption | exact Below.refl _ _ | refine Below.alloc ?_ (by first | omega | (simp; done) | (simp; omega)) _ | refine Below.setCell ?_ (by first | omega | (simp; done) | (simp; omega)) _ | refine Below.drew ?_ | refine below_drewN ?_ _))
  | true =>
    go_enter Try.func75, Try.ntmps75
    go_wp2_with fail
    refine (iGarbledOk_L (RdL.b cH) cL0n cL1n gI0 (RdL.b gH) gL1n gL2n).mono ?_
    rintro e w1 ⟨rfl, b1⟩
    have z1 := b1.size
    try simp only [World.size_alloc, World.size_setCell, size_drew] at z1
    have B1 : Below w.heap.size w w1 := Below.t b1
    have xc_ : Box w1 (w.heap.size) #[(.slice cA0 cn0 cc0), (.slice cA1 cn1 cc1)] 27 := ((Box.new (g := w.heap.size) _ #[(.slice cA0 cn0 cc0), (.slice cA1 cn1 cc1)] 27 (by simp)).alloc _).below b1 (by first | omega | (simp [size_drew]; done) | (simp [size_drew]; omega))
    have xc := xc_; clear xc_
    have xg_ : Box w1 (w.heap.size + 1) #[.int .i64 gI0, (.slice gA1 gn1 gc1), (.slice gA2 gn2 gc2)] 33 := (Box.new (g := w.heap.size + 1) _ #[.int .i64 gI0, (.slice gA1 gn1 gc1), (.slice gA2 gn2 gc2)] 33 (by simp)).below b1 (by first | omega | (simp [size_drew]; done) | (simp [size_drew]; omega))
    have xg := xg_; clear xg_
    rw [k1]
    have HO2 := Lib.hid k1
    have HK := Lib.hid (gb_circ k1)
    have HO := Lib.hid cL1i
    have HZ := Lib.hid gL1i
    have hzn := Lib.hid (show gn1 = cn0 by have := (gb_zs k1).1; have := gL1l.out; have := cL0l.out; omega)
    clear k1
    obtain ⟨cxc_0, cxc_1, fxc_0, fxc_1⟩ := xc.two
    have l_xc_0 : w.heap.size < w1.heap.size := by omega
    have l_xc_1 : w.heap.size < w1.heap.size + 1 := by omega
    go_wp2_with fail
    clear cxc_0 cxc_1 fxc_0 fxc_1 l_xc_0 l_xc_1
    generalize hw2 : World.alloc _ _ = w2
    have z2 : w1.heap.size + 1 ≤ w2.heap.size := by rw [← hw2]; simp
    have B2 : Below w.heap.size w w2 := by rw [← hw2]; repeat (with_reducible (first | assumption | exact Below.refl _ _ | refine Below.alloc ?_ (by first | omega | (simp; done) | (simp; omega)) _ | refine Below.setCell ?_ (by first | omega | (simp; done) | (simp; omega)) _ | refine Below.drew ?_ | refine below_drewN ?_ _))
    have xc_ : Box w2 (w.heap.size) #[(.slice cA0 cn0 cc0), (.slice cA1 cn1 cc1)] 27 := (by rw [← hw2]; exact (xc.alloc _))
    clear xc; have xc := xc_; clear xc_
    have xg_ : Box w2 (w.heap.size + 1) #[.int .i64 gI0, (.slice gA1 gn1 gc1), (.slice gA2 gn2 gc2)] 33 := (by rw [← hw2]; exact (xg.alloc _))
    clear xg; have xg := xg_; clear xg_
    have xo_ : Box w2 (w1.heap.size) #[] 25 := (by rw [← hw2]; exact (Box.new (g := w1.heap.size) _ #[] 25 (by simp)))
    have xo := xo_; clear xo_
    clear hw2
    have ro := OwnG.lit0 xo
    go_loopw [5, 16] (fun v i wr => ∃ (k : Nat) (A : Option Addr) (n c : Nat), k ≤ cn1 ∧ i = .int .i64 k ∧ v = .slice A n c ∧ Hid (OwnG wr (w.heap.size + 1 + 1) wr.heap.size (.slice A n c) (genLL (ohF cL1 gI0 gL1) k)) ∧ Hid (Box wr (w.heap.size) #[(.slice cA0 cn0 cc0), (.slice cA1 cn1 cc1)] 27) ∧ Hid (Box wr (w.heap.size + 1) #[.int .i64 gI0, (.slice gA1 gn1 gc1), (.slice gA2 gn2 gc2)] 33) ∧ Below w.heap.size w wr) (fun v i wr => cn1 - (intOf i).toNat)
    case atStart => exact ⟨0, _, _, _, by omega, rfl, rfl, OwnG.mono ro (by omega) (by first | omega | (simp [size_drew]; done) | (simp [size_drew]; omega)) (Nat.le_refl _), xc, xg, B2⟩
    case round =>
      obtain ⟨k, vA, vn, vc, hk, rfl, rfl, ro, xc, xg, B9⟩ := hrel
      obtain ⟨w9, hw9⟩ : ∃ x, x = wr := ⟨wr, rfl⟩
      subst hw9
      have ro := ro.out
      have xc := xc.out
      have zb_xc := xc.lt
      have xg := xg.out
      have zb_xg := xg.lt
      have hsn := Lib.hid (genLL_snoc (ohF cL1 gI0 gL1) k)
      have hgl := Lib.hid (genLL_len (ohF cL1 gI0 gL1) k)
      have z9 := B9.size
      have hro := ro.lo
      by_cases hlt : k < cn1
      · obtain ⟨m, hm, hmlt⟩ := circ_out HK.out (k := k) (by rw [cL1l.out]; exact hlt)
        have hm1 := Lib.hid hm
        have hmlt : m < cn0 := by rw [← cL0l.out]; exact hmlt
        obtain ⟨g, o, rfl, hg, hc⟩ := HO.out.block (by omega)
        have hco := hc k hlt
        clear hc
        rw [hm1.out] at hco
        clear hm
        have hmz : m < gn1 := by have := hzn.out; omega
        obtain ⟨g2, g2o, rfl, g2h, hc⟩ := HZ.out.block (by omega)
        have hcz := hc m (by omega)
        clear hc
        have hF := Lib.hid (show ohF cL1 gI0 gL1 k = [hashI (nth gL1 m) 999999, hashI (bits .xor .i64 (nth gL1 m) gI0) 999999] by rw [ohF, hm1.out]; rfl)
        have h1 : w9.cell? ⟨g, o + k, none⟩ = some (.int .i64 (m : Int)) := (cellB hg hco)
        have h1_l : g < w9.heap.size := by omega
        obtain ⟨cxc_0, cxc_1, fxc_0, fxc_1⟩ := xc.two
        have l_xc_0 : w.heap.size < w9.heap.size := by omega
        obtain ⟨cxg_0, cxg_1, cxg_2, fxg_0, fxg_1, fxg_2⟩ := xg.three
        have l_xg_0 : w.heap.size + 1 < w9.heap.size := by omega
        go_wp2_with fail
        clear cxc_0 cxc_1 fxc_0 fxc_1 l_xc_0 cxg_0 cxg_1 cxg_2 fxg_0 fxg_1 fxg_2 l_xg_0
        refine wp_region_held_drew (S := fun W => W.cell? ⟨w.heap.size + 1, 0, none⟩ = some (.int .i64 gI0) ∧ W.cell? ⟨w.heap.size + 1, 1, none⟩ = some (.slice (some ⟨g2, g2o, none⟩) gn1 gc1) ∧ W.cell? ⟨w.heap.size + 1, 2, none⟩ = some ((.slice gA2 gn2 gc2)) ∧ W.cell? ⟨g2, g2o + m, none⟩ = some (.int .i64 (nth gL1 m))) (by kernel_rfl) ⟨xg.drew.three.1, xg.drew.three.2.1, xg.drew.three.2.2.1, (cellB g2h hcz)⟩ (fun hS => ?_)
        (refine tk 0 hS ?_; (try simp only [Act.put, layA, layB, layC]))
        (refine tk 1 hS ?_; (try simp only [Act.put, layA, layB, layC]))
        (refine tk 2 hS ?_; (try simp only [Act.put, layA, layB, layC]))
        (refine tk 3 hS ?_; (try simp only [Act.put, layA, layB, layC]))
        (refine tk 4 hS ?_; (try simp only [Act.put, layA, layB, layC]))
        (refine tk 5 hS ?_; (try simp only [Act.put, layA, layB, layC]))
        (refine tk 7 hS ?_; (try simp only [Act.put, layA, layB, layC]))
        (refine tk 8 hS ?_; (try simp only [Act.put, layA, layB, layC]))
        (refine tk 9 hS ?_; (try simp only [Act.put, layA, layB, layC]))
        (refine tk 10 hS ?_; (try simp only [Act.put, layA, layB, layC]))
        (refine tk 11 hS ?_; (try simp only [Act.put, layA, layB, layC]))
        (refine tk 12 hS ?_; (try simp only [Act.put, layA, layB, layC]))
        (refine tk 13 hS ?_; (try simp only [Act.put, layA, layB, layC]))
        (refine tk 14 hS ?_; (try simp only [Act.put, layA, layB, layC]))
        refine on 6 ?_
        refine callH (by go_simp; (first | done | with_reducible rfl | exact ⟨rfl, rfl⟩)) ?_
        go_at_call 88
        refine (iHashLabel_any _ _ _).mono ?_
        rintro e w_ ⟨rfl, rfl⟩
        refine ⟨_, rfl, hS, fun hS => ?_⟩
        (try simp only [Act.put, layA, layB, layC])
        refine on 15 ?_
        refine callH (by go_simp; (first | done | with_reducible rfl | exact ⟨rfl, rfl⟩)) ?_
        go_at_call 88
        refine (iHashLabel_any _ _ _).mono ?_
        rintro e w_ ⟨rfl, rfl⟩
        refine ⟨_, rfl, hS, fun hS => ?_⟩
        (try simp only [Act.put, layA, layB, layC])
        refine on 16 ?_
        refine valueH (by go_simp; (first | done | with_reducible rfl | exact ⟨rfl, rfl⟩)) ?_ (fun hS_ => ?_)
        · exact ⟨(xg.alloc _).drew.three.1, (xg.alloc _).drew.three.2.1, (xg.alloc _).drew.three.2.2.1, (cellB g2h hcz)⟩
        clear hS
        have hS := hS_
        clear hS_
        (try simp only [Act.put, layA, layB, layC])
        refine on 17 ?_
        refine valueH (by go_simp; (first | done | with_reducible rfl | exact ⟨rfl, rfl⟩)) ?_ (fun hS_ => ?_)
        · exact ⟨((xg.alloc _).alloc _).drew.three.1, ((xg.alloc _).alloc _).drew.three.2.1, ((xg.alloc _).alloc _).drew.three.2.2.1, (cellB g2h hcz)⟩
        clear hS
        have hS := hS_
        clear hS_
        (try simp only [Act.put, layA, layB, layC])
        refine on 18 ?_
        refine appendH_G (.tmp 20) (.tmp 37) rfl rfl (((ro.alloc _).alloc _).drew) rfl ((Box.new (g := w9.heap.size + 1) _ #[.slice (some ⟨w9.heap.size, 0, none⟩) 2 2] 25 (by simp)).drew) (OwnL.lit2 (((Box.new (g := w9.heap.size) _ #[.int .i64 (hashI (nth gL1 m) 999999), .int .i64 (hashI (bits .xor .i64 (nth gL1 m) gI0) 999999)] 3 (by simp)).alloc _).drew)) (by omega) (by have := hgl.out; omega) ?_
        intro qA qn qc w10 ro_ c10
        have z10 := c10.size
        (try simp only [World.size_alloc, World.size_setCell, size_drew] at z10)
        have B10 : Below w.heap.size w w10 := Below.trans (b := _) (by repeat (with_reducible (first | assumption | exact Below.refl _ _ | refine Below.alloc ?_ (by first | omega | (simp; done) | (simp; omega)) _ | refine Below.setCell ?_ (by first | omega | (simp; done) | (simp; omega)) _ | refine Below.drew ?_ | refine below_drewN ?_ _))) (c10.below (by omega) (by first | omega | (simp [size_drew]; done) | (simp [size_drew]; omega)))
        clear ro; have ro := ro_; clear ro_
        have xc_ : Box w10 (w.heap.size) #[(.slice cA0 cn0 cc0), .slice (some ⟨g, o, none⟩) cn1 cc1] 27 := (((xc.alloc _).alloc _).drew).chg c10 (by omega)
        clear xc; have xc := xc_; clear xc_
        have xg_ : Box w10 (w.heap.size + 1) #[.int .i64 gI0, .slice (some ⟨g2, g2o, none⟩) gn1 gc1, (.slice gA2 gn2 gc2)] 33 := (((xg.alloc _).alloc _).drew).chg c10 (by omega)
        clear xg; have xg := xg_; clear xg_
        have xl_ : Box w10 (w9.heap.size) #[.int .i64 (hashI (nth gL1 m) 999999), .int .i64 (hashI (bits .xor .i64 (nth gL1 m) gI0) 999999)] 3 := (((Box.new (g := w9.heap.size) _ #[.int .i64 (hashI (nth gL1 m) 999999), .int .i64 (hashI (bits .xor .i64 (nth gL1 m) gI0) 999999)] 3 (by simp)).alloc _).drew).chg c10 (by omega)
        have xl := xl_; clear xl_
        have xr_ : Box w10 (w9.heap.size + 1) #[.slice (some ⟨w9.heap.size, 0, none⟩) 2 2] 25 := ((Box.new (g := w9.heap.size + 1) _ #[.slice (some ⟨w9.heap.size, 0, none⟩) 2 2] 25 (by simp)).drew).chg c10 (by omega)
        have xr := xr_; clear xr_
        clear xr xl
        refine ⟨⟨xg.three.1, xg.three.2.1, xg.three.2.2.1, (cellB g2h hcz)⟩, fun hS_ => ?_⟩
        clear hS; have hS := hS_; clear hS_
        (try simp only [Act.put, layA, layB, layC])
        (refine tk 19 hS ?_; (try simp only [Act.put, layA, layB, layC]))
        clear hS
        refine wpAnyH_done (by kernel_rfl) ?_ _
        rw [← hF.out] at ro
        go_wp2
        go_roundw
        case rel => exact ⟨k + 1, _, _, _, by omega, by go_num, rfl, by rw [hsn.out]; exact OwnG.mono ro (by omega) (by first | omega | (simp [size_drew]; done) | (simp [size_drew]; omega)) (Nat.le_refl _), xc, xg, B10⟩
        case measure => simp [intOf]; omega
      · have hkn : k = cn1 := by omega
        obtain ⟨cxc_0, cxc_1, fxc_0, fxc_1⟩ := xc.two
        have l_xc_0 : w.heap.size < w9.heap.size := by omega
        go_wp2
        refine bodyPost_ret (v := .slice vA vn vc) (by simp [results, go_sem, Try.results75]) rfl ⟨_, _, _, rfl, ?_, ?_⟩
        · rw [ohL_yes HO2.out, cL1l.out, ← hkn]; exact OwnG.mono ro (by omega) (by first | omega | (simp [size_drew]; done) | (simp [size_drew]; omega)) (Nat.le_refl _)
        · repeat (with_reducible (first | assumption | exact Below.refl _ _ | refine Below.alloc ?_ (by first | omega | (simp; done) | (simp; omega)) _ | refine Below.setCell ?_ (by first | omega | (simp; done) | (simp; omega)) _ | refine Below.drew ?_ | refine below_drewN ?_ _))
end Go.Proofs.Ytodnahpegecpiaa

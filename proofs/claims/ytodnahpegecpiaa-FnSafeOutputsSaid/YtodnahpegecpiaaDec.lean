/- Contracts of DecodeOutputs. Printed by mac2.py. -/
import Derived.Test.YtodnahpegecpiaaLok
import Derived.Test.YtodnahpegecpiaaOut
namespace Go.Proofs.Ytodnahpegecpiaa
set_option linter.unusedSimpArgs false
set_option linter.unusedVariables false
open Go.RowKit
def decF (o ws ds : List Int) (k : Nat) : Int := bits .xor .i64 (bits .and .i64 (nth ws (nth o k).toNat) 1) (nth ds k)
def decOk (l : List (Int × Int × Int)) (o ts cs ds ws : List Int) : Bool := pbOk l o ts cs ds && labelsOk ws (l.length : Int)
def decO (l : List (Int × Int × Int)) (o ts cs ds ws : List Int) : List Int := if decOk l o ts cs ds ws then genL (decF o ws ds) o.length else []
theorem decO_yes {l : List (Int × Int × Int)} {o ts cs ds ws : List Int} (h : decOk l o ts cs ds ws = true) : decO l o ts cs ds ws = genL (decF o ws ds) o.length := by simp [decO, h]
theorem decO_no {l : List (Int × Int × Int)} {o ts cs ds ws : List Int} (h : decOk l o ts cs ds ws = false) : decO l o ts cs ds ws = [] := by simp [decO, h]
theorem decO_len (l : List (Int × Int × Int)) (o ts cs ds ws : List Int) : (decO l o ts cs ds ws).length ≤ o.length := by unfold decO; split <;> simp [genL_len]
theorem pb_circ {l : List (Int × Int × Int)} {o ts cs ds : List Int} (h : pbOk l o ts cs ds = true) : circOk l o = true := (and_true_of (and_true_of (and_true_of h).1).1).1
theorem pb_dec {l : List (Int × Int × Int)} {o ts cs ds : List Int} (h : pbOk l o ts cs ds = true) : ds.length = o.length := by
 have h1 := (and_true_of h).2
 have h2 := (and_true_of (show (allBit ds && ((ds.length : Int) == (o.length : Int))) = true from h1)).2
 simp at h2; omega
theorem pb_tab {l : List (Int × Int × Int)} {o ts cs ds : List Int} (h : pbOk l o ts cs ds = true) : ts.length = 2 * countG l 4 := by
 have h1 := (and_true_of (and_true_of (and_true_of h).1).1).2
 have h2 := (and_true_of (show (allLab ts && ((ts.length : Int) == 2 * ((countG l 4 : Nat) : Int))) = true from h1)).2
 simp at h2; omega
theorem pb_cst {l : List (Int × Int × Int)} {o ts cs ds : List Int} (h : pbOk l o ts cs ds = true) : cs.length = countG l 2 := by
 have h1 := (and_true_of (and_true_of h).1).2
 have h2 := (and_true_of (show (allLab cs && ((cs.length : Int) == ((countG l 2 : Nat) : Int))) = true from h1)).2
 simp at h2; omega
theorem labs_split {l : List Int} {n : Int} : labelsOk l n = (((l.length : Int) == n) && allLab l) := Bool.and_comm _ _
set_option maxRecDepth 100000 in
set_option maxHeartbeats 2000000 in
theorem sDecodeOutputs_L {cA0 : Option Addr} {cn0 cc0 : Nat} {cL0 : List (Int × Int × Int)} {cA1 : Option Addr} {cn1 cc1 : Nat} {cL1 : List Int} {pA0 : Option Addr} {pn0 pc0 : Nat} {pL0 : List Int} {pA1 : Option Addr} {pn1 pc1 : Nat} {pL1 : List Int} {pA2 : Option Addr} {pn2 pc2 : Nat} {pL2 : List Int} {yA0 : Option Addr} {yn0 yc0 : Nat} {yL0 : List Int} {w : World} (cH : RdL w [((.slice cA0 cn0 cc0), .gates cL0), ((.slice cA1 cn1 cc1), .ints cL1)]) (cL0n : cL0.length ≤ 1048576) (cL1n : cL1.length ≤ 1048576) (pH : RdL w [((.slice pA0 pn0 pc0), .ints pL0), ((.slice pA1 pn1 pc1), .ints pL1), ((.slice pA2 pn2 pc2), .ints pL2)]) (pL0n : pL0.length ≤ 1048576) (pL1n : pL1.length ≤ 1048576) (pL2n : pL2.length ≤ 1048576) (yH : RdL w [((.slice yA0 yn0 yc0), .ints yL0)]) (yL0n : yL0.length ≤ 1048576) :
  Calls Try.prog 69 #[.agg #[(.slice cA0 cn0 cc0), (.slice cA1 cn1 cc1)], .agg #[(.slice pA0 pn0 pc0), (.slice pA1 pn1 pc1), (.slice pA2 pn2 pc2)], (.slice yA0 yn0 yc0)] w fun e w' => ∃ rA0 rn0 rc0, e = .returned (.tuple #[.slice rA0 rn0 rc0, .bool (decOk cL0 cL1 pL0 pL1 pL2 yL0)]) ∧ OwnL w' w.heap.size w'.heap.size [(.slice rA0 rn0 rc0, .ints (decO cL0 cL1 pL0 pL1 pL2 yL0))] ∧ Below w.heap.size w w' := by
 have cL0g : Gates w cA0 cn0 cL0 := RdG.toG (cH ((.slice cA0 cn0 cc0), .gates cL0) (by simp))
 have cL0l := Lib.hid cL0g.1
 have cL0m : cn0 ≤ 1048576 := by rw [← cL0l.out]; exact cL0n
 have cL1i : Ints w cA1 cn1 cL1 := Rd.toInts (cH ((.slice cA1 cn1 cc1), .ints cL1) (by simp))
 have cL1l := Lib.hid cL1i.len
 have cL1m : cn1 ≤ 1048576 := by rw [← cL1l.out]; exact cL1n
 have pL0i : Ints w pA0 pn0 pL0 := Rd.toInts (pH ((.slice pA0 pn0 pc0), .ints pL0) (by simp))
 have pL0l := Lib.hid pL0i.len
 have pL0m : pn0 ≤ 1048576 := by rw [← pL0l.out]; exact pL0n
 have pL1i : Ints w pA1 pn1 pL1 := Rd.toInts (pH ((.slice pA1 pn1 pc1), .ints pL1) (by simp))
 have pL1l := Lib.hid pL1i.len
 have pL1m : pn1 ≤ 1048576 := by rw [← pL1l.out]; exact pL1n
 have pL2i : Ints w pA2 pn2 pL2 := Rd.toInts (pH ((.slice pA2 pn2 pc2), .ints pL2) (by simp))
 have pL2l := Lib.hid pL2i.len
 have pL2m : pn2 ≤ 1048576 := by rw [← pL2l.out]; exact pL2n
 have yL0i : Ints w yA0 yn0 yL0 := Rd.toInts (yH ((.slice yA0 yn0 yc0), .ints yL0) (by simp))
 have yL0l := Lib.hid yL0i.len
 have yL0m : yn0 ≤ 1048576 := by rw [← yL0l.out]; exact yL0n
 cases k1 : pbOk cL0 cL1 pL0 pL1 pL2 with
 | false =>
  have HO2 : Hid (decOk cL0 cL1 pL0 pL1 pL2 yL0 = false) := by show _ = _; rw [decOk, k1]; rfl
  go_enter Try.func69, Try.ntmps69
  go_wp2_with fail
  refine (sPublicOk_L (RdL.b cH) cL0n cL1n (RdL.b pH) pL0n pL1n pL2n).mono ?_
  rintro e w1 ⟨rfl, b1⟩
  have z1 := b1.size
  try simp only [World.size_alloc, World.size_setCell, size_drew] at z1
  have B1 : Below w.heap.size w w1 := Below.t b1
  have xc_ : Box w1 (w.heap.size) #[(.slice cA0 cn0 cc0), (.slice cA1 cn1 cc1)] 27 := (((Box.new (g := w.heap.size) _ #[(.slice cA0 cn0 cc0), (.slice cA1 cn1 cc1)] 27 (by simp)).alloc _).alloc _).below b1 (by first | omega | (simp [size_drew]; done) | (simp [size_drew]; omega))
  have xc := xc_; clear xc_
  have xp_ : Box w1 (w.heap.size + 1) #[(.slice pA0 pn0 pc0), (.slice pA1 pn1 pc1), (.slice pA2 pn2 pc2)] 37 := ((Box.new (g := w.heap.size + 1) _ #[(.slice pA0 pn0 pc0), (.slice pA1 pn1 pc1), (.slice pA2 pn2 pc2)] 37 (by simp)).alloc _).below b1 (by first | omega | (simp [size_drew]; done) | (simp [size_drew]; omega))
  have xp := xp_; clear xp_
  have xo_ : Box w1 (w.heap.size + 1 + 1) #[] 3 := (Box.new (g := w.heap.size + 1 + 1) _ #[] 3 (by simp)).below b1 (by first | omega | (simp [size_drew]; done) | (simp [size_drew]; omega))
  have xo := xo_; clear xo_
  rw [k1]
  have ro := OwnL.lit0 xo
  obtain ⟨cxc_0, cxc_1, fxc_0, fxc_1⟩ := xc.two
  have l_xc_0 : w.heap.size < w1.heap.size := by omega
  go_wp2
  refine bodyPost_ret (v := .tuple #[.slice (some ⟨w.heap.size + 1 + 1, 0, none⟩) 0 0, .bool false]) (by simp [results, go_sem, Try.results69]) rfl ⟨_, _, _, by rw [HO2.out], ?_, ?_⟩
  ·rw [decO_no HO2.out]; exact OwnL.widen ro (by omega)
  ·repeat (with_reducible (first | assumption | exact Below.refl _ _ | refine Below.alloc ?_ (by first | omega | (simp; done) | (simp; omega)) _ | refine Below.setCell ?_ (by first | omega | (simp; done) | (simp; omega)) _ | refine Below.drew ?_ | refine below_drewN ?_ _))
 | true =>
  cases k2 : labelsOk yL0 (cn0 : Int) with
  | false =>
   have HO2 : Hid (decOk cL0 cL1 pL0 pL1 pL2 yL0 = false) := by show _ = _; rw [decOk, cL0l.out, k1, k2]; rfl
   go_enter Try.func69, Try.ntmps69
   go_wp2_with fail
   refine (sPublicOk_L (RdL.b cH) cL0n cL1n (RdL.b pH) pL0n pL1n pL2n).mono ?_
   rintro e w1 ⟨rfl, b1⟩
   have z1 := b1.size
   try simp only [World.size_alloc, World.size_setCell, size_drew] at z1
   have B1 : Below w.heap.size w w1 := Below.t b1
   have xc_ : Box w1 (w.heap.size) #[(.slice cA0 cn0 cc0), (.slice cA1 cn1 cc1)] 27 := (((Box.new (g := w.heap.size) _ #[(.slice cA0 cn0 cc0), (.slice cA1 cn1 cc1)] 27 (by simp)).alloc _).alloc _).below b1 (by first | omega | (simp [size_drew]; done) | (simp [size_drew]; omega))
   have xc := xc_; clear xc_
   have xp_ : Box w1 (w.heap.size + 1) #[(.slice pA0 pn0 pc0), (.slice pA1 pn1 pc1), (.slice pA2 pn2 pc2)] 37 := ((Box.new (g := w.heap.size + 1) _ #[(.slice pA0 pn0 pc0), (.slice pA1 pn1 pc1), (.slice pA2 pn2 pc2)] 37 (by simp)).alloc _).below b1 (by first | omega | (simp [size_drew]; done) | (simp [size_drew]; omega))
   have xp := xp_; clear xp_
   have xo_ : Box w1 (w.heap.size + 1 + 1) #[] 3 := (Box.new (g := w.heap.size + 1 + 1) _ #[] 3 (by simp)).below b1 (by first | omega | (simp [size_drew]; done) | (simp [size_drew]; omega))
   have xo := xo_; clear xo_
   rw [k1]
   have ro := OwnL.lit0 xo
   obtain ⟨cxc_0, cxc_1, fxc_0, fxc_1⟩ := xc.two
   have l_xc_0 : w.heap.size < w1.heap.size := by omega
   go_wp2_with fail
   clear cxc_0 cxc_1 fxc_0 fxc_1 l_xc_0
   refine (l18Labels_any _ _ _ _ _ _ yL0i.b (by omega)).mono ?_
   rintro e w_ ⟨rfl, rfl⟩
   rw [k2]
   go_wp2
   refine bodyPost_ret (v := .tuple #[.slice (some ⟨w.heap.size + 1 + 1, 0, none⟩) 0 0, .bool false]) (by simp [results, go_sem, Try.results69]) rfl ⟨_, _, _, by rw [HO2.out], ?_, ?_⟩
   ·rw [decO_no HO2.out]; exact OwnL.widen ro (by omega)
   ·repeat (with_reducible (first | assumption | exact Below.refl _ _ | refine Below.alloc ?_ (by first | omega | (simp; done) | (simp; omega)) _ | refine Below.setCell ?_ (by first | omega | (simp; done) | (simp; omega)) _ | refine Below.drew ?_ | refine below_drewN ?_ _))
  | true =>
   have HO2 : Hid (decOk cL0 cL1 pL0 pL1 pL2 yL0 = true) := by show _ = _; rw [decOk, cL0l.out, k1, k2]; rfl
   go_enter Try.func69, Try.ntmps69
   go_wp2_with fail
   refine (sPublicOk_L (RdL.b cH) cL0n cL1n (RdL.b pH) pL0n pL1n pL2n).mono ?_
   rintro e w1 ⟨rfl, b1⟩
   have z1 := b1.size
   try simp only [World.size_alloc, World.size_setCell, size_drew] at z1
   have B1 : Below w.heap.size w w1 := Below.t b1
   have xc_ : Box w1 (w.heap.size) #[(.slice cA0 cn0 cc0), (.slice cA1 cn1 cc1)] 27 := (((Box.new (g := w.heap.size) _ #[(.slice cA0 cn0 cc0), (.slice cA1 cn1 cc1)] 27 (by simp)).alloc _).alloc _).below b1 (by first | omega | (simp [size_drew]; done) | (simp [size_drew]; omega))
   have xc := xc_; clear xc_
   have xp_ : Box w1 (w.heap.size + 1) #[(.slice pA0 pn0 pc0), (.slice pA1 pn1 pc1), (.slice pA2 pn2 pc2)] 37 := ((Box.new (g := w.heap.size + 1) _ #[(.slice pA0 pn0 pc0), (.slice pA1 pn1 pc1), (.slice pA2 pn2 pc2)] 37 (by simp)).alloc _).below b1 (by first | omega | (simp [size_drew]; done) | (simp [size_drew]; omega))
   have xp := xp_; clear xp_
   have xo_ : Box w1 (w.heap.size + 1 + 1) #[] 3 := (Box.new (g := w.heap.size + 1 + 1) _ #[] 3 (by simp)).below b1 (by first | omega | (simp [size_drew]; done) | (simp [size_drew]; omega))
   have xo := xo_; clear xo_
   rw [k1]
   have ro := OwnL.lit0 xo
   obtain ⟨cxc_0, cxc_1, fxc_0, fxc_1⟩ := xc.two
   have l_xc_0 : w.heap.size < w1.heap.size := by omega
   go_wp2_with fail
   clear cxc_0 cxc_1 fxc_0 fxc_1 l_xc_0
   refine (l18Labels_any _ _ _ _ _ _ yL0i.b (by omega)).mono ?_
   rintro e w_ ⟨rfl, rfl⟩
   rw [k2]
   have q2 := Lib.hid (show yn0 = cn0 by have := (and_true_of (show (allLab yL0 && ((yL0.length : Int) == (cn0 : Int))) = true from k2)).2; have := yL0l.out; simp at *; omega)
   have q3 := Lib.hid (show pn2 = cn1 by have := pb_dec k1; have := pL2l.out; have := cL1l.out; omega)
   have HK := Lib.hid (pb_circ k1)
   have HO := Lib.hid cL1i
   have HY := Lib.hid yL0i
   have HD := Lib.hid pL2i
   obtain ⟨cxc_0, cxc_1, fxc_0, fxc_1⟩ := xc.two
   have l_xc_0 : w.heap.size < w1.heap.size := by omega
   go_wp2_with fail
   clear cxc_0 cxc_1 fxc_0 fxc_1 l_xc_0
   go_loopw [8, 9] (fun v i wr => ∃ (k : Nat) (A : Option Addr) (n c : Nat), k ≤ cn1 ∧ i = .int .i64 k ∧ v = .slice A n c ∧ Hid (OwnL wr (w.heap.size + 1 + 1) wr.heap.size [(.slice A n c, .ints (genL (decF cL1 yL0 pL2) k))]) ∧ Hid (Box wr (w.heap.size) #[(.slice cA0 cn0 cc0), (.slice cA1 cn1 cc1)] 27) ∧ Hid (Box wr (w.heap.size + 1) #[(.slice pA0 pn0 pc0), (.slice pA1 pn1 pc1), (.slice pA2 pn2 pc2)] 37) ∧ Below w.heap.size w wr) (fun v i wr => cn1 - (intOf i).toNat)
   case atStart => exact ⟨0, _, _, _, by omega, rfl, rfl, OwnL.widen ro (by omega), xc, xp, B1⟩
   case round =>
    obtain ⟨k, vA, vn, vc, hk, rfl, rfl, ro, xc, xp, B9⟩ := hrel
    obtain ⟨w9, hw9⟩ : ∃ x, x = wr := ⟨wr, rfl⟩
    subst hw9
    have ro := ro.out
    have xc := xc.out
    have zb_xc := xc.lt
    have xp := xp.out
    have zb_xp := xp.lt
    have hsn := Lib.hid (genL_snoc (decF cL1 yL0 pL2) k)
    have hgl := Lib.hid (genL_len (decF cL1 yL0 pL2) k)
    have z9 := B9.size
    by_cases hlt : k < cn1
    ·obtain ⟨m, hm, hmlt⟩ := circ_out HK.out (k := k) (by rw [cL1l.out]; exact hlt)
     have hm1 := Lib.hid hm
     have hmlt : m < cn0 := by rw [← cL0l.out]; exact hmlt
     obtain ⟨g, o, rfl, hg, hc⟩ := HO.out.block (by omega)
     have hco := hc k hlt
     clear hc
     rw [hm1.out] at hco
     clear hm
     have hmy : m < yn0 := by have := q2.out; omega
     have hkp : k < pn2 := by have := q3.out; omega
     obtain ⟨g2, g2o, rfl, g2h, hc⟩ := HY.out.block (by have := q2.out; omega)
     have hcy := hc m (by have := q2.out; omega)
     clear hc
     obtain ⟨g3, g3o, rfl, g3h, hc⟩ := HD.out.block (by omega)
     have hcd := hc k (by omega)
     clear hc
     have hF := Lib.hid (show decF cL1 yL0 pL2 k = bits .xor .i64 (bits .and .i64 (nth yL0 m) 1) (nth pL2 k) by rw [decF, hm1.out]; rfl)
     obtain ⟨cxc_0, cxc_1, fxc_0, fxc_1⟩ := xc.two
     have l_xc_0 : w.heap.size < w9.heap.size := by omega
     obtain ⟨cxp_0, cxp_1, cxp_2, fxp_0, fxp_1, fxp_2⟩ := xp.three
     have l_xp_0 : w.heap.size + 1 < w9.heap.size := by omega
     go_wp2_with fail
     clear cxc_0 cxc_1 fxc_0 fxc_1 l_xc_0 cxp_0 cxp_1 cxp_2 fxp_0 fxp_1 fxp_2 l_xp_0
     refine wp_region_held_drew (S := fun W => W.cell? ⟨w.heap.size, 0, none⟩ = some ((.slice cA0 cn0 cc0)) ∧ W.cell? ⟨w.heap.size, 1, none⟩ = some (.slice (some ⟨g, o, none⟩) cn1 cc1) ∧ W.cell? ⟨w.heap.size + 1, 0, none⟩ = some ((.slice pA0 pn0 pc0)) ∧ W.cell? ⟨w.heap.size + 1, 1, none⟩ = some ((.slice pA1 pn1 pc1)) ∧ W.cell? ⟨w.heap.size + 1, 2, none⟩ = some (.slice (some ⟨g3, g3o, none⟩) pn2 pc2) ∧ W.cell? ⟨g, o + k, none⟩ = some (.int .i64 (m : Int)) ∧ W.cell? ⟨g2, g2o + m, none⟩ = some (.int .i64 (nth yL0 m)) ∧ W.cell? ⟨g3, g3o + k, none⟩ = some (.int .i64 (nth pL2 k))) (by kernel_rfl) ⟨xc.drew.two.1, xc.drew.two.2.1, xp.drew.three.1, xp.drew.three.2.1, xp.drew.three.2.2.1, (cellB hg hco), (cellB g2h hcy), (cellB g3h hcd)⟩ (fun hS => ?_)
     (refine tk 0 hS ?_; (try simp only [Act.put, layA, layB, layC]))
     (refine tk 1 hS ?_; (try simp only [Act.put, layA, layB, layC]))
     (refine tk 2 hS ?_; (try simp only [Act.put, layA, layB, layC]))
     (refine tk 3 hS ?_; (try simp only [Act.put, layA, layB, layC]))
     (refine tk 4 hS ?_; (try simp only [Act.put, layA, layB, layC]))
     (refine tk 5 hS ?_; (try simp only [Act.put, layA, layB, layC]))
     (refine tk 6 hS ?_; (try simp only [Act.put, layA, layB, layC]))
     (refine tk 7 hS ?_; (try simp only [Act.put, layA, layB, layC]))
     (refine tk 8 hS ?_; (try simp only [Act.put, layA, layB, layC]))
     (refine tk 9 hS ?_; (try simp only [Act.put, layA, layB, layC]))
     (refine tk 10 hS ?_; (try simp only [Act.put, layA, layB, layC]))
     (refine tk 11 hS ?_; (try simp only [Act.put, layA, layB, layC]))
     (refine tk 12 hS ?_; (try simp only [Act.put, layA, layB, layC]))
     (refine tk 13 hS ?_; (try simp only [Act.put, layA, layB, layC]))
     (refine tk 14 hS ?_; (try simp only [Act.put, layA, layB, layC]))
     (refine tk 15 hS ?_; (try simp only [Act.put, layA, layB, layC]))
     refine on 16 ?_
     refine valueH (by go_simp; (first | done | with_reducible rfl | exact ⟨rfl, rfl⟩)) ?_ (fun hS_ => ?_)
     ·exact ⟨(xc.alloc _).drew.two.1, (xc.alloc _).drew.two.2.1, (xp.alloc _).drew.three.1, (xp.alloc _).drew.three.2.1, (xp.alloc _).drew.three.2.2.1, (cellB hg hco), (cellB g2h hcy), (cellB g3h hcd)⟩
     clear hS
     have hS := hS_
     clear hS_
     (try simp only [Act.put, layA, layB, layC])
     refine on 17 ?_
     refine appendH_L (.tmp 31) (.tmp 47) rfl rfl ((ro.alloc _).drew) rfl (Ints.new (g := w9.heap.size) _ [bits .xor .i64 (bits .and .i64 (nth yL0 m) 1) (nth pL2 k)] 3 (by simp) rfl).drew (by have := hgl.out; omega) ?_
     intro qA qn qc qlo qhi w10 ro_ dro c10
     have z10 := c10.size
     (try simp only [World.size_alloc, World.size_setCell, size_drew] at z10 dro)
     have B10 : Below w.heap.size w w10 := Below.trans (b := _) (by repeat (with_reducible (first | assumption | exact Below.refl _ _ | refine Below.alloc ?_ (by first | omega | (simp; done) | (simp; omega)) _ | refine Below.setCell ?_ (by first | omega | (simp; done) | (simp; omega)) _ | refine Below.drew ?_ | refine below_drewN ?_ _))) (c10.below (by omega) (by first | omega | (simp [size_drew]; done) | (simp [size_drew]; omega)))
     clear ro; have ro := ro_; clear ro_
     have xc_ : Box w10 (w.heap.size) #[(.slice cA0 cn0 cc0), .slice (some ⟨g, o, none⟩) cn1 cc1] 27 := ((xc.alloc _).drew).chg c10 (by omega)
     clear xc; have xc := xc_; clear xc_
     have xp_ : Box w10 (w.heap.size + 1) #[(.slice pA0 pn0 pc0), (.slice pA1 pn1 pc1), .slice (some ⟨g3, g3o, none⟩) pn2 pc2] 37 := ((xp.alloc _).drew).chg c10 (by omega)
     clear xp; have xp := xp_; clear xp_
     have xl_ : Box w10 (w9.heap.size) #[.int .i64 (bits .xor .i64 (bits .and .i64 (nth yL0 m) 1) (nth pL2 k))] 3 := ((Box.new (g := w9.heap.size) _ #[.int .i64 (bits .xor .i64 (bits .and .i64 (nth yL0 m) 1) (nth pL2 k))] 3 (by simp)).drew).chg c10 (by omega)
     have xl := xl_; clear xl_
     refine ⟨⟨xc.two.1, xc.two.2.1, xp.three.1, xp.three.2.1, xp.three.2.2.1, (cellB hg hco), (cellB g2h hcy), (cellB g3h hcd)⟩, fun hS_ => ?_⟩
     clear hS; have hS := hS_; clear hS_
     (try simp only [Act.put, layA, layB, layC])
     (refine tk 18 hS ?_; (try simp only [Act.put, layA, layB, layC]))
     clear hS
     refine wpAnyH_done (by kernel_rfl) ?_ _
     rw [← hF.out] at ro
     go_wp2
     go_roundw
     case rel => exact ⟨k + 1, _, _, _, by omega, by go_num, rfl, by rw [hsn.out]; exact OwnL.widen ro (by omega), xc, xp, B10⟩
     case measure => simp [intOf]; omega
    ·have hkn : k = cn1 := by omega
     obtain ⟨cxc_0, cxc_1, fxc_0, fxc_1⟩ := xc.two
     have l_xc_0 : w.heap.size < w9.heap.size := by omega
     go_wp2
     refine bodyPost_ret (v := .tuple #[.slice vA vn vc, .bool true]) (by simp [results, go_sem, Try.results69]) rfl ⟨_, _, _, by rw [HO2.out], ?_, ?_⟩
     ·rw [decO_yes HO2.out, cL1l.out, ← hkn]; exact OwnL.widen ro (by omega)
     ·repeat (with_reducible (first | assumption | exact Below.refl _ _ | refine Below.alloc ?_ (by first | omega | (simp; done) | (simp; omega)) _ | refine Below.setCell ?_ (by first | omega | (simp; done) | (simp; omega)) _ | refine Below.drew ?_ | refine below_drewN ?_ _))
set_option maxRecDepth 100000 in
set_option maxHeartbeats 2000000 in
theorem iDecodeOutputs_L {cA0 : Option Addr} {cn0 cc0 : Nat} {cL0 : List (Int × Int × Int)} {cA1 : Option Addr} {cn1 cc1 : Nat} {cL1 : List Int} {pA0 : Option Addr} {pn0 pc0 : Nat} {pL0 : List Int} {pA1 : Option Addr} {pn1 pc1 : Nat} {pL1 : List Int} {pA2 : Option Addr} {pn2 pc2 : Nat} {pL2 : List Int} {yA0 : Option Addr} {yn0 yc0 : Nat} {yL0 : List Int} {w : World} (cH : RdL w [((.slice cA0 cn0 cc0), .gates cL0), ((.slice cA1 cn1 cc1), .ints cL1)]) (cL0n : cL0.length ≤ 1048576) (cL1n : cL1.length ≤ 1048576) (pH : RdL w [((.slice pA0 pn0 pc0), .ints pL0), ((.slice pA1 pn1 pc1), .ints pL1), ((.slice pA2 pn2 pc2), .ints pL2)]) (pL0n : pL0.length ≤ 1048576) (pL1n : pL1.length ≤ 1048576) (pL2n : pL2.length ≤ 1048576) (yH : RdL w [((.slice yA0 yn0 yc0), .ints yL0)]) (yL0n : yL0.length ≤ 1048576) :
  Calls Try.prog 30 #[.agg #[(.slice cA0 cn0 cc0), (.slice cA1 cn1 cc1)], .agg #[(.slice pA0 pn0 pc0), (.slice pA1 pn1 pc1), (.slice pA2 pn2 pc2)], (.slice yA0 yn0 yc0)] w fun e w' => ∃ rA0 rn0 rc0, e = .returned (.tuple #[.slice rA0 rn0 rc0, .bool (decOk cL0 cL1 pL0 pL1 pL2 yL0)]) ∧ OwnL w' w.heap.size w'.heap.size [(.slice rA0 rn0 rc0, .ints (decO cL0 cL1 pL0 pL1 pL2 yL0))] ∧ Below w.heap.size w w' := by
 have cL0g : Gates w cA0 cn0 cL0 := RdG.toG (cH ((.slice cA0 cn0 cc0), .gates cL0) (by simp))
 have cL0l := Lib.hid cL0g.1
 have cL0m : cn0 ≤ 1048576 := by rw [← cL0l.out]; exact cL0n
 have cL1i : Ints w cA1 cn1 cL1 := Rd.toInts (cH ((.slice cA1 cn1 cc1), .ints cL1) (by simp))
 have cL1l := Lib.hid cL1i.len
 have cL1m : cn1 ≤ 1048576 := by rw [← cL1l.out]; exact cL1n
 have pL0i : Ints w pA0 pn0 pL0 := Rd.toInts (pH ((.slice pA0 pn0 pc0), .ints pL0) (by simp))
 have pL0l := Lib.hid pL0i.len
 have pL0m : pn0 ≤ 1048576 := by rw [← pL0l.out]; exact pL0n
 have pL1i : Ints w pA1 pn1 pL1 := Rd.toInts (pH ((.slice pA1 pn1 pc1), .ints pL1) (by simp))
 have pL1l := Lib.hid pL1i.len
 have pL1m : pn1 ≤ 1048576 := by rw [← pL1l.out]; exact pL1n
 have pL2i : Ints w pA2 pn2 pL2 := Rd.toInts (pH ((.slice pA2 pn2 pc2), .ints pL2) (by simp))
 have pL2l := Lib.hid pL2i.len
 have pL2m : pn2 ≤ 1048576 := by rw [← pL2l.out]; exact pL2n
 have yL0i : Ints w yA0 yn0 yL0 := Rd.toInts (yH ((.slice yA0 yn0 yc0), .ints yL0) (by simp))
 have yL0l := Lib.hid yL0i.len
 have yL0m : yn0 ≤ 1048576 := by rw [← yL0l.out]; exact yL0n
 cases k1 : pbOk cL0 cL1 pL0 pL1 pL2 with
 | false =>
  have HO2 : Hid (decOk cL0 cL1 pL0 pL1 pL2 yL0 = false) := by show _ = _; rw [decOk, k1]; rfl
  go_enter Try.func30, Try.ntmps30
  go_wp2_with fail
  refine (iPublicOk_L (RdL.b cH) cL0n cL1n (RdL.b pH) pL0n pL1n pL2n).mono ?_
  rintro e w1 ⟨rfl, b1⟩
  have z1 := b1.size
  try simp only [World.size_alloc, World.size_setCell, size_drew] at z1
  have B1 : Below w.heap.size w w1 := Below.t b1
  have xc_ : Box w1 (w.heap.size) #[(.slice cA0 cn0 cc0), (.slice cA1 cn1 cc1)] 27 := ((Box.new (g := w.heap.size) _ #[(.slice cA0 cn0 cc0), (.slice cA1 cn1 cc1)] 27 (by simp)).alloc _).below b1 (by first | omega | (simp [size_drew]; done) | (simp [size_drew]; omega))
  have xc := xc_; clear xc_
  have xp_ : Box w1 (w.heap.size + 1) #[(.slice pA0 pn0 pc0), (.slice pA1 pn1 pc1), (.slice pA2 pn2 pc2)] 37 := (Box.new (g := w.heap.size + 1) _ #[(.slice pA0 pn0 pc0), (.slice pA1 pn1 pc1), (.slice pA2 pn2 pc2)] 37 (by simp)).below b1 (by first | omega | (simp [size_drew]; done) | (simp [size_drew]; omega))
  have xp := xp_; clear xp_
  rw [k1]
  obtain ⟨cxc_0, cxc_1, fxc_0, fxc_1⟩ := xc.two
  have l_xc_0 : w.heap.size < w1.heap.size := by omega
  go_wp2
  refine bodyPost_ret (v := .tuple #[.slice none 0 0, .bool false]) (by simp [results, go_sem, Try.results30]) rfl ⟨none, 0, 0, by rw [HO2.out], ?_, ?_⟩
  ·rw [decO_no HO2.out]; exact OwnL.nones _ (by simp) (by first | omega | (simp [size_drew]; done) | (simp [size_drew]; omega))
  ·repeat (with_reducible (first | assumption | exact Below.refl _ _ | refine Below.alloc ?_ (by first | omega | (simp; done) | (simp; omega)) _ | refine Below.setCell ?_ (by first | omega | (simp; done) | (simp; omega)) _ | refine Below.drew ?_ | refine below_drewN ?_ _))
 | true =>
  cases k2 : ((yn0 : Int) == (cn0 : Int)) with
  | false =>
   have HO2 : Hid (decOk cL0 cL1 pL0 pL1 pL2 yL0 = false) := by show _ = _; rw [decOk, k1, labs_split, yL0l.out, cL0l.out, k2]; rfl
   have k2' : ((yn0 : Int) != (cn0 : Int)) = true := by simp at k2 ⊢; omega
   go_enter Try.func30, Try.ntmps30
   go_wp2_with fail
   refine (iPublicOk_L (RdL.b cH) cL0n cL1n (RdL.b pH) pL0n pL1n pL2n).mono ?_
   rintro e w1 ⟨rfl, b1⟩
   have z1 := b1.size
   try simp only [World.size_alloc, World.size_setCell, size_drew] at z1
   have B1 : Below w.heap.size w w1 := Below.t b1
   have xc_ : Box w1 (w.heap.size) #[(.slice cA0 cn0 cc0), (.slice cA1 cn1 cc1)] 27 := ((Box.new (g := w.heap.size) _ #[(.slice cA0 cn0 cc0), (.slice cA1 cn1 cc1)] 27 (by simp)).alloc _).below b1 (by first | omega | (simp [size_drew]; done) | (simp [size_drew]; omega))
   have xc := xc_; clear xc_
   have xp_ : Box w1 (w.heap.size + 1) #[(.slice pA0 pn0 pc0), (.slice pA1 pn1 pc1), (.slice pA2 pn2 pc2)] 37 := (Box.new (g := w.heap.size + 1) _ #[(.slice pA0 pn0 pc0), (.slice pA1 pn1 pc1), (.slice pA2 pn2 pc2)] 37 (by simp)).below b1 (by first | omega | (simp [size_drew]; done) | (simp [size_drew]; omega))
   have xp := xp_; clear xp_
   rw [k1]
   obtain ⟨cxc_0, cxc_1, fxc_0, fxc_1⟩ := xc.two
   have l_xc_0 : w.heap.size < w1.heap.size := by omega
   go_wp2
   refine bodyPost_ret (v := .tuple #[.slice none 0 0, .bool false]) (by simp [results, go_sem, Try.results30]) rfl ⟨none, 0, 0, by rw [HO2.out], ?_, ?_⟩
   ·rw [decO_no HO2.out]; exact OwnL.nones _ (by simp) (by first | omega | (simp [size_drew]; done) | (simp [size_drew]; omega))
   ·repeat (with_reducible (first | assumption | exact Below.refl _ _ | refine Below.alloc ?_ (by first | omega | (simp; done) | (simp; omega)) _ | refine Below.setCell ?_ (by first | omega | (simp; done) | (simp; omega)) _ | refine Below.drew ?_ | refine below_drewN ?_ _))
  | true =>
   cases k3 : allLab yL0 with
   | false =>
    have HO2 : Hid (decOk cL0 cL1 pL0 pL1 pL2 yL0 = false) := by show _ = _; rw [decOk, k1, labs_split, yL0l.out, cL0l.out, k2, k3]; rfl
    have k2' : ((yn0 : Int) != (cn0 : Int)) = false := by simp at k2 ⊢; omega
    go_enter Try.func30, Try.ntmps30
    go_wp2_with fail
    refine (iPublicOk_L (RdL.b cH) cL0n cL1n (RdL.b pH) pL0n pL1n pL2n).mono ?_
    rintro e w1 ⟨rfl, b1⟩
    have z1 := b1.size
    try simp only [World.size_alloc, World.size_setCell, size_drew] at z1
    have B1 : Below w.heap.size w w1 := Below.t b1
    have xc_ : Box w1 (w.heap.size) #[(.slice cA0 cn0 cc0), (.slice cA1 cn1 cc1)] 27 := ((Box.new (g := w.heap.size) _ #[(.slice cA0 cn0 cc0), (.slice cA1 cn1 cc1)] 27 (by simp)).alloc _).below b1 (by first | omega | (simp [size_drew]; done) | (simp [size_drew]; omega))
    have xc := xc_; clear xc_
    have xp_ : Box w1 (w.heap.size + 1) #[(.slice pA0 pn0 pc0), (.slice pA1 pn1 pc1), (.slice pA2 pn2 pc2)] 37 := (Box.new (g := w.heap.size + 1) _ #[(.slice pA0 pn0 pc0), (.slice pA1 pn1 pc1), (.slice pA2 pn2 pc2)] 37 (by simp)).below b1 (by first | omega | (simp [size_drew]; done) | (simp [size_drew]; omega))
    have xp := xp_; clear xp_
    rw [k1]
    obtain ⟨cxc_0, cxc_1, fxc_0, fxc_1⟩ := xc.two
    have l_xc_0 : w.heap.size < w1.heap.size := by omega
    go_wp2_with fail
    clear cxc_0 cxc_1 fxc_0 fxc_1 l_xc_0
    refine (areLabels_any _ _ _ _ _ yL0i.b (by omega)).mono ?_
    rintro e w_ ⟨rfl, rfl⟩
    rw [k3]
    obtain ⟨cxc_0, cxc_1, fxc_0, fxc_1⟩ := xc.two
    have l_xc_0 : w.heap.size < w1.heap.size := by omega
    go_wp2
    refine bodyPost_ret (v := .tuple #[.slice none 0 0, .bool false]) (by simp [results, go_sem, Try.results30]) rfl ⟨none, 0, 0, by rw [HO2.out], ?_, ?_⟩
    ·rw [decO_no HO2.out]; exact OwnL.nones _ (by simp) (by first | omega | (simp [size_drew]; done) | (simp [size_drew]; omega))
    ·repeat (with_reducible (first | assumption | exact Below.refl _ _ | refine Below.alloc ?_ (by first | omega | (simp; done) | (simp; omega)) _ | refine Below.setCell ?_ (by first | omega | (simp; done) | (simp; omega)) _ | refine Below.drew ?_ | refine below_drewN ?_ _))
   | true =>
    have HO2 : Hid (decOk cL0 cL1 pL0 pL1 pL2 yL0 = true) := by show _ = _; rw [decOk, k1, labs_split, yL0l.out, cL0l.out, k2, k3]; rfl
    have k2' : ((yn0 : Int) != (cn0 : Int)) = false := by simp at k2 ⊢; omega
    go_enter Try.func30, Try.ntmps30
    go_wp2_with fail
    refine (iPublicOk_L (RdL.b cH) cL0n cL1n (RdL.b pH) pL0n pL1n pL2n).mono ?_
    rintro e w1 ⟨rfl, b1⟩
    have z1 := b1.size
    try simp only [World.size_alloc, World.size_setCell, size_drew] at z1
    have B1 : Below w.heap.size w w1 := Below.t b1
    have xc_ : Box w1 (w.heap.size) #[(.slice cA0 cn0 cc0), (.slice cA1 cn1 cc1)] 27 := ((Box.new (g := w.heap.size) _ #[(.slice cA0 cn0 cc0), (.slice cA1 cn1 cc1)] 27 (by simp)).alloc _).below b1 (by first | omega | (simp [size_drew]; done) | (simp [size_drew]; omega))
    have xc := xc_; clear xc_
    have xp_ : Box w1 (w.heap.size + 1) #[(.slice pA0 pn0 pc0), (.slice pA1 pn1 pc1), (.slice pA2 pn2 pc2)] 37 := (Box.new (g := w.heap.size + 1) _ #[(.slice pA0 pn0 pc0), (.slice pA1 pn1 pc1), (.slice pA2 pn2 pc2)] 37 (by simp)).below b1 (by first | omega | (simp [size_drew]; done) | (simp [size_drew]; omega))
    have xp := xp_; clear xp_
    rw [k1]
    obtain ⟨cxc_0, cxc_1, fxc_0, fxc_1⟩ := xc.two
    have l_xc_0 : w.heap.size < w1.heap.size := by omega
    go_wp2_with fail
    clear cxc_0 cxc_1 fxc_0 fxc_1 l_xc_0
    refine (areLabels_any _ _ _ _ _ yL0i.b (by omega)).mono ?_
    rintro e w_ ⟨rfl, rfl⟩
    rw [k3]
    have q2 := Lib.hid (show yn0 = cn0 by simp at k2; omega)
    have q3 := Lib.hid (show pn2 = cn1 by have := pb_dec k1; have := pL2l.out; have := cL1l.out; omega)
    have HK := Lib.hid (pb_circ k1)
    have HO := Lib.hid cL1i
    have HY := Lib.hid yL0i
    have HD := Lib.hid pL2i
    obtain ⟨cxc_0, cxc_1, fxc_0, fxc_1⟩ := xc.two
    have l_xc_0 : w.heap.size < w1.heap.size := by omega
    have l_xc_1 : w.heap.size < w1.heap.size + 1 := by omega
    go_wp2_with fail
    clear cxc_0 cxc_1 fxc_0 fxc_1 l_xc_0 l_xc_1
    generalize hw2 : World.alloc _ _ = w2
    have z2 : w1.heap.size + 1 ≤ w2.heap.size := by rw [← hw2]; simp
    have B2 : Below w.heap.size w w2 := by rw [← hw2]; repeat (with_reducible (first | assumption | exact Below.refl _ _ | refine Below.alloc ?_ (by first | omega | (simp; done) | (simp; omega)) _ | refine Below.setCell ?_ (by first | omega | (simp; done) | (simp; omega)) _ | refine Below.drew ?_ | refine below_drewN ?_ _))
    have xc_ : Box w2 (w.heap.size) #[(.slice cA0 cn0 cc0), (.slice cA1 cn1 cc1)] 27 := (by rw [← hw2]; exact (xc.alloc _))
    clear xc; have xc := xc_; clear xc_
    have xp_ : Box w2 (w.heap.size + 1) #[(.slice pA0 pn0 pc0), (.slice pA1 pn1 pc1), (.slice pA2 pn2 pc2)] 37 := (by rw [← hw2]; exact (xp.alloc _))
    clear xp; have xp := xp_; clear xp_
    have xo_ : Box w2 (w1.heap.size) #[] 3 := (by rw [← hw2]; exact (Box.new (g := w1.heap.size) _ #[] 3 (by simp)))
    have xo := xo_; clear xo_
    clear hw2
    have ro := OwnL.lit0 xo
    go_loopw [8, 32] (fun v i wr => ∃ (k : Nat) (A : Option Addr) (n c : Nat), k ≤ cn1 ∧ i = .int .i64 k ∧ v = .slice A n c ∧ Hid (OwnL wr (w.heap.size + 1 + 1) wr.heap.size [(.slice A n c, .ints (genL (decF cL1 yL0 pL2) k))]) ∧ Hid (Box wr (w.heap.size) #[(.slice cA0 cn0 cc0), (.slice cA1 cn1 cc1)] 27) ∧ Hid (Box wr (w.heap.size + 1) #[(.slice pA0 pn0 pc0), (.slice pA1 pn1 pc1), (.slice pA2 pn2 pc2)] 37) ∧ Below w.heap.size w wr) (fun v i wr => cn1 - (intOf i).toNat)
    case atStart => exact ⟨0, _, _, _, by omega, rfl, rfl, OwnL.widen ro (by omega), xc, xp, B2⟩
    case round =>
     obtain ⟨k, vA, vn, vc, hk, rfl, rfl, ro, xc, xp, B9⟩ := hrel
     obtain ⟨w9, hw9⟩ : ∃ x, x = wr := ⟨wr, rfl⟩
     subst hw9
     have ro := ro.out
     have xc := xc.out
     have zb_xc := xc.lt
     have xp := xp.out
     have zb_xp := xp.lt
     have hsn := Lib.hid (genL_snoc (decF cL1 yL0 pL2) k)
     have hgl := Lib.hid (genL_len (decF cL1 yL0 pL2) k)
     have z9 := B9.size
     by_cases hlt : k < cn1
     ·obtain ⟨m, hm, hmlt⟩ := circ_out HK.out (k := k) (by rw [cL1l.out]; exact hlt)
      have hm1 := Lib.hid hm
      have hmlt : m < cn0 := by rw [← cL0l.out]; exact hmlt
      obtain ⟨g, o, rfl, hg, hc⟩ := HO.out.block (by omega)
      have hco := hc k hlt
      clear hc
      rw [hm1.out] at hco
      clear hm
      have hmy : m < yn0 := by have := q2.out; omega
      have hkp : k < pn2 := by have := q3.out; omega
      obtain ⟨g2, g2o, rfl, g2h, hc⟩ := HY.out.block (by have := q2.out; omega)
      have hcy := hc m (by have := q2.out; omega)
      clear hc
      obtain ⟨g3, g3o, rfl, g3h, hc⟩ := HD.out.block (by omega)
      have hcd := hc k (by omega)
      clear hc
      have hF := Lib.hid (show decF cL1 yL0 pL2 k = bits .xor .i64 (bits .and .i64 (nth yL0 m) 1) (nth pL2 k) by rw [decF, hm1.out]; rfl)
      have h1 : w9.cell? ⟨g, o + k, none⟩ = some (.int .i64 (m : Int)) := (cellB hg hco)
      have h1_l : g < w9.heap.size := by omega
      obtain ⟨cxp_0, cxp_1, cxp_2, fxp_0, fxp_1, fxp_2⟩ := xp.three
      have l_xp_0 : w.heap.size + 1 < w9.heap.size := by omega
      go_wp2_with fail
      clear cxp_0 cxp_1 cxp_2 fxp_0 fxp_1 fxp_2 l_xp_0
      refine wp_region_held_drew (S := fun W => W.cell? ⟨w.heap.size + 1, 0, none⟩ = some ((.slice pA0 pn0 pc0)) ∧ W.cell? ⟨w.heap.size + 1, 1, none⟩ = some ((.slice pA1 pn1 pc1)) ∧ W.cell? ⟨w.heap.size + 1, 2, none⟩ = some (.slice (some ⟨g3, g3o, none⟩) pn2 pc2) ∧ W.cell? ⟨g2, g2o + m, none⟩ = some (.int .i64 (nth yL0 m)) ∧ W.cell? ⟨g3, g3o + k, none⟩ = some (.int .i64 (nth pL2 k))) (by kernel_rfl) ⟨xp.drew.three.1, xp.drew.three.2.1, xp.drew.three.2.2.1, (cellB g2h hcy), (cellB g3h hcd)⟩ (fun hS => ?_)
      (refine tk 0 hS ?_; (try simp only [Act.put, layA, layB, layC]))
      (refine tk 1 hS ?_; (try simp only [Act.put, layA, layB, layC]))
      (refine tk 2 hS ?_; (try simp only [Act.put, layA, layB, layC]))
      (refine tk 3 hS ?_; (try simp only [Act.put, layA, layB, layC]))
      (refine tk 4 hS ?_; (try simp only [Act.put, layA, layB, layC]))
      (refine tk 5 hS ?_; (try simp only [Act.put, layA, layB, layC]))
      (refine tk 6 hS ?_; (try simp only [Act.put, layA, layB, layC]))
      (refine tk 7 hS ?_; (try simp only [Act.put, layA, layB, layC]))
      (refine tk 8 hS ?_; (try simp only [Act.put, layA, layB, layC]))
      (refine tk 9 hS ?_; (try simp only [Act.put, layA, layB, layC]))
      (refine tk 10 hS ?_; (try simp only [Act.put, layA, layB, layC]))
      (refine tk 11 hS ?_; (try simp only [Act.put, layA, layB, layC]))
      refine on 12 ?_
      refine valueH (by go_simp; (first | done | with_reducible rfl | exact ⟨rfl, rfl⟩)) ?_ (fun hS_ => ?_)
      ·exact ⟨(xp.alloc _).drew.three.1, (xp.alloc _).drew.three.2.1, (xp.alloc _).drew.three.2.2.1, (cellB g2h hcy), (cellB g3h hcd)⟩
      clear hS
      have hS := hS_
      clear hS_
      (try simp only [Act.put, layA, layB, layC])
      refine on 13 ?_
      refine appendH_L (.tmp 37) (.tmp 49) rfl rfl ((ro.alloc _).drew) rfl (Ints.new (g := w9.heap.size) _ [bits .xor .i64 (bits .and .i64 (nth yL0 m) 1) (nth pL2 k)] 3 (by simp) rfl).drew (by have := hgl.out; omega) ?_
      intro qA qn qc qlo qhi w10 ro_ dro c10
      have z10 := c10.size
      (try simp only [World.size_alloc, World.size_setCell, size_drew] at z10 dro)
      have B10 : Below w.heap.size w w10 := Below.trans (b := _) (by repeat (with_reducible (first | assumption | exact Below.refl _ _ | refine Below.alloc ?_ (by first | omega | (simp; done) | (simp; omega)) _ | refine Below.setCell ?_ (by first | omega | (simp; done) | (simp; omega)) _ | refine Below.drew ?_ | refine below_drewN ?_ _))) (c10.below (by omega) (by first | omega | (simp [size_drew]; done) | (simp [size_drew]; omega)))
      clear ro; have ro := ro_; clear ro_
      have xc_ : Box w10 (w.heap.size) #[(.slice cA0 cn0 cc0), .slice (some ⟨g, o, none⟩) cn1 cc1] 27 := ((xc.alloc _).drew).chg c10 (by omega)
      clear xc; have xc := xc_; clear xc_
      have xp_ : Box w10 (w.heap.size + 1) #[(.slice pA0 pn0 pc0), (.slice pA1 pn1 pc1), .slice (some ⟨g3, g3o, none⟩) pn2 pc2] 37 := ((xp.alloc _).drew).chg c10 (by omega)
      clear xp; have xp := xp_; clear xp_
      have xl_ : Box w10 (w9.heap.size) #[.int .i64 (bits .xor .i64 (bits .and .i64 (nth yL0 m) 1) (nth pL2 k))] 3 := ((Box.new (g := w9.heap.size) _ #[.int .i64 (bits .xor .i64 (bits .and .i64 (nth yL0 m) 1) (nth pL2 k))] 3 (by simp)).drew).chg c10 (by omega)
      have xl := xl_; clear xl_
      refine ⟨⟨xp.three.1, xp.three.2.1, xp.three.2.2.1, (cellB g2h hcy), (cellB g3h hcd)⟩, fun hS_ => ?_⟩
      clear hS; have hS := hS_; clear hS_
      (try simp only [Act.put, layA, layB, layC])
      (refine tk 14 hS ?_; (try simp only [Act.put, layA, layB, layC]))
      clear hS
      refine wpAnyH_done (by kernel_rfl) ?_ _
      rw [← hF.out] at ro
      go_wp2
      go_roundw
      case rel => exact ⟨k + 1, _, _, _, by omega, by go_num, rfl, by rw [hsn.out]; exact OwnL.widen ro (by omega), xc, xp, B10⟩
      case measure => simp [intOf]; omega
     ·have hkn : k = cn1 := by omega
      obtain ⟨cxc_0, cxc_1, fxc_0, fxc_1⟩ := xc.two
      have l_xc_0 : w.heap.size < w9.heap.size := by omega
      go_wp2
      refine bodyPost_ret (v := .tuple #[.slice vA vn vc, .bool true]) (by simp [results, go_sem, Try.results30]) rfl ⟨_, _, _, by rw [HO2.out], ?_, ?_⟩
      ·rw [decO_yes HO2.out, cL1l.out, ← hkn]; exact OwnL.widen ro (by omega)
      ·repeat (with_reducible (first | assumption | exact Below.refl _ _ | refine Below.alloc ?_ (by first | omega | (simp; done) | (simp; omega)) _ | refine Below.setCell ?_ (by first | omega | (simp; done) | (simp; omega)) _ | refine Below.drew ?_ | refine below_drewN ?_ _))
end Go.Proofs.Ytodnahpegecpiaa

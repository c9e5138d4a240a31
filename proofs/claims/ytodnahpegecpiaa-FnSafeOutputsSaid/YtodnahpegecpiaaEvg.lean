/- Contracts of EvalGarbled. Printed by mac2.py. -/
import Derived.Test.YtodnahpegecpiaaDec
namespace Go.Proofs.Ytodnahpegecpiaa
set_option linter.unusedSimpArgs false
set_option linter.unusedVariables false
open Go.RowKit
/-- The five forms of a gate of a valid circuit. -/
theorem gate_cases {l : List (Int × Int × Int)} {o : List Int} (h : circOk l o = true) {k : Nat} (hk : k < l.length) :
  (∃ m : Nat, gAt l k = (1, (m : Int), 0) ∧ m ≤ 79) ∨ (∃ m : Nat, gAt l k = (2, (m : Int), 0) ∧ m ≤ 1) ∨ (∃ m j : Nat, gAt l k = (3, (m : Int), (j : Int)) ∧ m < k ∧ j < k) ∨
  (∃ m j : Nat, gAt l k = (4, (m : Int), (j : Int)) ∧ m < k ∧ j < k) ∨ (∃ m : Nat, gAt l k = (5, (m : Int), 0) ∧ m < k) := by
 have hg := circ_gate h hk
 generalize gAt l k = gt at *
 obtain ⟨x, a, b⟩ := gt
 have hg : gateOk x a b (k : Int) = true := hg
 by_cases h1 : x = 1
 ·subst h1
  rw [gateOk_1] at hg
  obtain ⟨ha, hb⟩ := and_true_of hg
  obtain ⟨h2, h3⟩ := inB_iff.1 ha
  obtain ⟨m, rfl⟩ := Int.eq_ofNat_of_zero_le h2
  have hb' : b = 0 := by simpa using hb
  subst hb'
  exact .inl ⟨m, rfl, by omega⟩
 by_cases h2 : x = 2
 ·subst h2
  rw [gateOk_2] at hg
  obtain ⟨ha, hb⟩ := and_true_of hg
  obtain ⟨h2, h3⟩ := inB_iff.1 ha
  obtain ⟨m, rfl⟩ := Int.eq_ofNat_of_zero_le h2
  have hb' : b = 0 := by simpa using hb
  subst hb'
  exact .inr (.inl ⟨m, rfl, by omega⟩)
 by_cases h34 : x = 3 ∨ x = 4
 ·rw [gateOk_34 h34] at hg
  simp at hg
  obtain ⟨⟨p1, p2⟩, p3, p4⟩ := hg
  obtain ⟨m, rfl⟩ := Int.eq_ofNat_of_zero_le p1
  obtain ⟨j, rfl⟩ := Int.eq_ofNat_of_zero_le p3
  rcases h34 with rfl | rfl
  ·exact .inr (.inr (.inl ⟨m, j, rfl, by omega, by omega⟩))
  ·exact .inr (.inr (.inr (.inl ⟨m, j, rfl, by omega, by omega⟩)))
 by_cases h5 : x = 5
 ·subst h5
  rw [gateOk_5] at hg
  simp at hg
  obtain ⟨⟨p1, p2⟩, p3⟩ := hg
  obtain ⟨m, rfl⟩ := Int.eq_ofNat_of_zero_le p1
  subst p3
  exact .inr (.inr (.inr (.inr ⟨m, rfl, by omega⟩)))
 rw [gateOk_n h1 h2 (fun e => h34 (.inl e)) (fun e => h34 (.inr e)) h5] at hg
 cases hg
theorem OwnL.cellAt {w : World} {lo hi g o n c : Nat} {l : List Int} (h : OwnL w lo hi [(.slice (some ⟨g, o, none⟩) n c, .ints l)]) (j : Nat) (hj : j < l.length) : w.cell? ⟨g, o + j, none⟩ = some (.int .i64 (nth l j)) := by
 obtain ⟨A, m, d, e, hI⟩ := h.rd.ints
 cases e
 have hl := hI.len
 obtain ⟨g', o', e', _, hc⟩ := hI.block (by omega)
 cases e'
 exact hc j (by omega)
theorem OwnL.some {w : World} {lo hi n c : Nat} {A : Option Addr} {l : List Int} (h : OwnL w lo hi [(.slice A n c, .ints l)]) (hl : 0 < l.length) : ∃ g o, A = some ⟨g, o, none⟩ := by
 obtain ⟨A', m, d, e, hI⟩ := h.rd.ints
 cases e
 obtain ⟨g', o', e', _, _⟩ := hI.block (by rw [← hI.len]; exact hl)
 exact ⟨g', o', e'⟩
theorem OwnL.len {w : World} {lo hi n c : Nat} {A : Option Addr} {l : List Int} (h : OwnL w lo hi [(.slice A n c, .ints l)]) : n = l.length := by
 obtain ⟨A', m, d, e, hI⟩ := h.rd.ints
 cases e
 exact hI.len.symm
def evOk (l : List (Int × Int × Int)) (o ts cs ds ls : List Int) : Bool := pbOk l o ts cs ds && labelsOk ls 80
def evL (l : List (Int × Int × Int)) (o ts cs ds ls : List Int) : List Int := if evOk l o ts cs ds ls then eXs ls cs ts l l.length else []
theorem evL_yes {l : List (Int × Int × Int)} {o ts cs ds ls : List Int} (h : evOk l o ts cs ds ls = true) : evL l o ts cs ds ls = eXs ls cs ts l l.length := by simp [evL, h]
theorem evL_no {l : List (Int × Int × Int)} {o ts cs ds ls : List Int} (h : evOk l o ts cs ds ls = false) : evL l o ts cs ds ls = [] := by simp [evL, h]
theorem evL_len (l : List (Int × Int × Int)) (o ts cs ds ls : List Int) : (evL l o ts cs ds ls).length ≤ l.length := by unfold evL; split <;> simp [eXs_len]
set_option maxRecDepth 100000 in
set_option maxHeartbeats 2000000 in
theorem sEvalGarbled_L {cA0 : Option Addr} {cn0 cc0 : Nat} {cL0 : List (Int × Int × Int)} {cA1 : Option Addr} {cn1 cc1 : Nat} {cL1 : List Int} {pA0 : Option Addr} {pn0 pc0 : Nat} {pL0 : List Int} {pA1 : Option Addr} {pn1 pc1 : Nat} {pL1 : List Int} {pA2 : Option Addr} {pn2 pc2 : Nat} {pL2 : List Int} {yA0 : Option Addr} {yn0 yc0 : Nat} {yL0 : List Int} {w : World} (cH : RdL w [((.slice cA0 cn0 cc0), .gates cL0), ((.slice cA1 cn1 cc1), .ints cL1)]) (cL0n : cL0.length ≤ 1048576) (cL1n : cL1.length ≤ 1048576) (pH : RdL w [((.slice pA0 pn0 pc0), .ints pL0), ((.slice pA1 pn1 pc1), .ints pL1), ((.slice pA2 pn2 pc2), .ints pL2)]) (pL0n : pL0.length ≤ 1048576) (pL1n : pL1.length ≤ 1048576) (pL2n : pL2.length ≤ 1048576) (yH : RdL w [((.slice yA0 yn0 yc0), .ints yL0)]) (yL0n : yL0.length ≤ 1048576) :
  Calls Try.prog 79 #[.agg #[(.slice cA0 cn0 cc0), (.slice cA1 cn1 cc1)], .agg #[(.slice pA0 pn0 pc0), (.slice pA1 pn1 pc1), (.slice pA2 pn2 pc2)], (.slice yA0 yn0 yc0)] w fun e w' => ∃ rA0 rn0 rc0, e = .returned (.tuple #[.slice rA0 rn0 rc0, .bool (evOk cL0 cL1 pL0 pL1 pL2 yL0)]) ∧ OwnL w' w.heap.size w'.heap.size [(.slice rA0 rn0 rc0, .ints (evL cL0 cL1 pL0 pL1 pL2 yL0))] ∧ Below w.heap.size w w' := by
 have cL0g : Gates w cA0 cn0 cL0 := RdG.toG (cH ((.slice cA0 cn0 cc0), .gates cL0) (by simp))
 have cL0l := Lib.hid cL0g.1
 have cL0m : cn0 ≤ 1048576 := by rw [← cL0l.out]; exact cL0n
 have cL1i : Ints w cA1 cn1 cL1 := Rd.toInts (cH ((.slice cA1 cn1 cc1), .ints cL1) (by simp))
 have cL1l := Lib.hid cL1i.len
 have cL1m : cn1 ≤ 1048576 := by rw [← cL1l.out]; exact cL1n
 have pL0i : Ints w pA0 pn0 pL0 := Rd.toInts (pH ((.slice pA0 pn0 pc0), .ints pL0) (by simp))
 have pL0l := Lib.hid pL0i.len
 have pL0m : pn0 ≤ 1048576 := by rw [← pL0l.out]; exact pL0n
 have pL1i : Ints w pA1 pn1 pL1 := Rd.toInts (pH ((.slice pA1 pn1 pc1), .ints pL1) (by simp))
 have pL1l := Lib.hid pL1i.len
 have pL1m : pn1 ≤ 1048576 := by rw [← pL1l.out]; exact pL1n
 have pL2i : Ints w pA2 pn2 pL2 := Rd.toInts (pH ((.slice pA2 pn2 pc2), .ints pL2) (by simp))
 have pL2l := Lib.hid pL2i.len
 have pL2m : pn2 ≤ 1048576 := by rw [← pL2l.out]; exact pL2n
 have yL0i : Ints w yA0 yn0 yL0 := Rd.toInts (yH ((.slice yA0 yn0 yc0), .ints yL0) (by simp))
 have yL0l := Lib.hid yL0i.len
 have yL0m : yn0 ≤ 1048576 := by rw [← yL0l.out]; exact yL0n
 cases k1 : pbOk cL0 cL1 pL0 pL1 pL2 with
 | false =>
  have HO2 : Hid (evOk cL0 cL1 pL0 pL1 pL2 yL0 = false) := by show _ = _; rw [evOk, k1]; rfl
  go_enter Try.func79, Try.ntmps79
  go_wp2_with fail
  refine (sPublicOk_L (RdL.b cH) cL0n cL1n (RdL.b pH) pL0n pL1n pL2n).mono ?_
  rintro e w1 ⟨rfl, b1⟩
  have z1 := b1.size
  try simp only [World.size_alloc, World.size_setCell, size_drew] at z1
  have B1 : Below w.heap.size w w1 := Below.t b1
  have xc_ : Box w1 (w.heap.size) #[(.slice cA0 cn0 cc0), (.slice cA1 cn1 cc1)] 27 := (((Box.new (g := w.heap.size) _ #[(.slice cA0 cn0 cc0), (.slice cA1 cn1 cc1)] 27 (by simp)).alloc _).alloc _).below b1 (by first | omega | (simp [size_drew]; done) | (simp [size_drew]; omega))
  have xc := xc_; clear xc_
  have xp_ : Box w1 (w.heap.size + 1) #[(.slice pA0 pn0 pc0), (.slice pA1 pn1 pc1), (.slice pA2 pn2 pc2)] 37 := ((Box.new (g := w.heap.size + 1) _ #[(.slice pA0 pn0 pc0), (.slice pA1 pn1 pc1), (.slice pA2 pn2 pc2)] 37 (by simp)).alloc _).below b1 (by first | omega | (simp [size_drew]; done) | (simp [size_drew]; omega))
  have xp := xp_; clear xp_
  have xo_ : Box w1 (w.heap.size + 1 + 1) #[] 3 := (Box.new (g := w.heap.size + 1 + 1) _ #[] 3 (by simp)).below b1 (by first | omega | (simp [size_drew]; done) | (simp [size_drew]; omega))
  have xo := xo_; clear xo_
  rw [k1]
  have ro := OwnL.lit0 xo
  obtain ⟨cxc_0, cxc_1, fxc_0, fxc_1⟩ := xc.two
  have l_xc_0 : w.heap.size < w1.heap.size := by omega
  go_wp2
  refine bodyPost_ret (v := .tuple #[.slice (some ⟨w.heap.size + 1 + 1, 0, none⟩) 0 0, .bool false]) (by simp [results, go_sem, Try.results79]) rfl ⟨_, _, _, by rw [HO2.out], ?_, ?_⟩
  ·rw [evL_no HO2.out]; exact OwnL.widen ro (by omega)
  ·repeat (with_reducible (first | assumption | exact Below.refl _ _ | refine Below.alloc ?_ (by first | omega | (simp; done) | (simp; omega)) _ | refine Below.setCell ?_ (by first | omega | (simp; done) | (simp; omega)) _ | refine Below.drew ?_ | refine below_drewN ?_ _))
 | true =>
  cases k2 : labelsOk yL0 80 with
  | false =>
   have HO2 : Hid (evOk cL0 cL1 pL0 pL1 pL2 yL0 = false) := by show _ = _; rw [evOk, k1, k2]; rfl
   go_enter Try.func79, Try.ntmps79
   go_wp2_with fail
   refine (sPublicOk_L (RdL.b cH) cL0n cL1n (RdL.b pH) pL0n pL1n pL2n).mono ?_
   rintro e w1 ⟨rfl, b1⟩
   have z1 := b1.size
   try simp only [World.size_alloc, World.size_setCell, size_drew] at z1
   have B1 : Below w.heap.size w w1 := Below.t b1
   have xc_ : Box w1 (w.heap.size) #[(.slice cA0 cn0 cc0), (.slice cA1 cn1 cc1)] 27 := (((Box.new (g := w.heap.size) _ #[(.slice cA0 cn0 cc0), (.slice cA1 cn1 cc1)] 27 (by simp)).alloc _).alloc _).below b1 (by first | omega | (simp [size_drew]; done) | (simp [size_drew]; omega))
   have xc := xc_; clear xc_
   have xp_ : Box w1 (w.heap.size + 1) #[(.slice pA0 pn0 pc0), (.slice pA1 pn1 pc1), (.slice pA2 pn2 pc2)] 37 := ((Box.new (g := w.heap.size + 1) _ #[(.slice pA0 pn0 pc0), (.slice pA1 pn1 pc1), (.slice pA2 pn2 pc2)] 37 (by simp)).alloc _).below b1 (by first | omega | (simp [size_drew]; done) | (simp [size_drew]; omega))
   have xp := xp_; clear xp_
   have xo_ : Box w1 (w.heap.size + 1 + 1) #[] 3 := (Box.new (g := w.heap.size + 1 + 1) _ #[] 3 (by simp)).below b1 (by first | omega | (simp [size_drew]; done) | (simp [size_drew]; omega))
   have xo := xo_; clear xo_
   rw [k1]
   have ro := OwnL.lit0 xo
   obtain ⟨cxc_0, cxc_1, fxc_0, fxc_1⟩ := xc.two
   have l_xc_0 : w.heap.size < w1.heap.size := by omega
   go_wp2_with fail
   clear cxc_0 cxc_1 fxc_0 fxc_1 l_xc_0
   refine (l18Labels_any _ _ _ _ _ _ yL0i.b (by omega)).mono ?_
   rintro e w_ ⟨rfl, rfl⟩
   rw [k2]
   go_wp2
   refine bodyPost_ret (v := .tuple #[.slice (some ⟨w.heap.size + 1 + 1, 0, none⟩) 0 0, .bool false]) (by simp [results, go_sem, Try.results79]) rfl ⟨_, _, _, by rw [HO2.out], ?_, ?_⟩
   ·rw [evL_no HO2.out]; exact OwnL.widen ro (by omega)
   ·repeat (with_reducible (first | assumption | exact Below.refl _ _ | refine Below.alloc ?_ (by first | omega | (simp; done) | (simp; omega)) _ | refine Below.setCell ?_ (by first | omega | (simp; done) | (simp; omega)) _ | refine Below.drew ?_ | refine below_drewN ?_ _))
  | true =>
   have HO2 : Hid (evOk cL0 cL1 pL0 pL1 pL2 yL0 = true) := by show _ = _; rw [evOk, k1, k2]; rfl
   go_enter Try.func79, Try.ntmps79
   go_wp2_with fail
   refine (sPublicOk_L (RdL.b cH) cL0n cL1n (RdL.b pH) pL0n pL1n pL2n).mono ?_
   rintro e w1 ⟨rfl, b1⟩
   have z1 := b1.size
   try simp only [World.size_alloc, World.size_setCell, size_drew] at z1
   have B1 : Below w.heap.size w w1 := Below.t b1
   have xc_ : Box w1 (w.heap.size) #[(.slice cA0 cn0 cc0), (.slice cA1 cn1 cc1)] 27 := (((Box.new (g := w.heap.size) _ #[(.slice cA0 cn0 cc0), (.slice cA1 cn1 cc1)] 27 (by simp)).alloc _).alloc _).below b1 (by first | omega | (simp [size_drew]; done) | (simp [size_drew]; omega))
   have xc := xc_; clear xc_
   have xp_ : Box w1 (w.heap.size + 1) #[(.slice pA0 pn0 pc0), (.slice pA1 pn1 pc1), (.slice pA2 pn2 pc2)] 37 := ((Box.new (g := w.heap.size + 1) _ #[(.slice pA0 pn0 pc0), (.slice pA1 pn1 pc1), (.slice pA2 pn2 pc2)] 37 (by simp)).alloc _).below b1 (by first | omega | (simp [size_drew]; done) | (simp [size_drew]; omega))
   have xp := xp_; clear xp_
   have xo_ : Box w1 (w.heap.size + 1 + 1) #[] 3 := (Box.new (g := w.heap.size + 1 + 1) _ #[] 3 (by simp)).below b1 (by first | omega | (simp [size_drew]; done) | (simp [size_drew]; omega))
   have xo := xo_; clear xo_
   rw [k1]
   have ro := OwnL.lit0 xo
   obtain ⟨cxc_0, cxc_1, fxc_0, fxc_1⟩ := xc.two
   have l_xc_0 : w.heap.size < w1.heap.size := by omega
   go_wp2_with fail
   clear cxc_0 cxc_1 fxc_0 fxc_1 l_xc_0
   refine (l18Labels_any _ _ _ _ _ _ yL0i.b (by omega)).mono ?_
   rintro e w_ ⟨rfl, rfl⟩
   rw [k2]
   have q2 := Lib.hid (show yn0 = 80 by have := (and_true_of (show (allLab yL0 && ((yL0.length : Int) == 80)) = true from k2)).2; have := yL0l.out; simp at *; omega)
   have q3 := Lib.hid (show pn0 = 2 * cntG cL0 4 cn0 by have := pb_tab k1; rw [countG, cL0l.out] at this; have := pL0l.out; omega)
   have q4 := Lib.hid (show pn1 = cntG cL0 2 cn0 by have := pb_cst k1; rw [countG, cL0l.out] at this; have := pL1l.out; omega)
   have HK := Lib.hid (pb_circ k1)
   have HG := Lib.hid cL0g
   have HY := Lib.hid yL0i
   have HT := Lib.hid pL0i
   have HC := Lib.hid pL1i
   have hc6 : cn0 ≤ 6000 := by have := circ_len (pb_circ k1); have := cL0l.out; omega
   obtain ⟨cxc_0, cxc_1, fxc_0, fxc_1⟩ := xc.two
   have l_xc_0 : w.heap.size < w1.heap.size := by omega
   go_wp2_with fail
   clear cxc_0 cxc_1 fxc_0 fxc_1 l_xc_0
   clear xo
   go_loopw [8, 9, 10, 11] (fun v x y i wr => ∃ (k : Nat) (A : Option Addr) (n c : Nat), k ≤ cn0 ∧ i = .int .i64 k ∧ v = .slice A n c ∧ y = .int .i64 (cntG cL0 2 k : Nat) ∧ x = .int .i64 (cntG cL0 4 k : Nat) ∧ Hid (OwnL wr (w.heap.size + 1 + 1) wr.heap.size [(.slice A n c, .ints (eXs yL0 pL1 pL0 cL0 k))]) ∧ Hid (Box wr (w.heap.size) #[(.slice cA0 cn0 cc0), (.slice cA1 cn1 cc1)] 27) ∧ Hid (Box wr (w.heap.size + 1) #[(.slice pA0 pn0 pc0), (.slice pA1 pn1 pc1), (.slice pA2 pn2 pc2)] 37) ∧ Below w.heap.size w wr) (fun v x y i wr => cn0 - (intOf i).toNat)
   case atStart => exact ⟨0, _, _, _, by omega, rfl, rfl, rfl, rfl, OwnL.widen ro (by omega), xc, xp, B1⟩
   case round =>
    obtain ⟨k, vA, vn, vc, hk, rfl, rfl, rfl, rfl, ro, xc, xp, B9⟩ := hrel
    obtain ⟨w9, hw9⟩ : ∃ x, x = wr := ⟨wr, rfl⟩
    subst hw9
    have ro := ro.out
    have xc := xc.out
    have zb_xc := xc.lt
    have xp := xp.out
    have zb_xp := xp.lt
    have hgl := Lib.hid (eXs_len yL0 pL1 pL0 cL0 k)
    have hvn := ro.len
    rw [hgl.out] at hvn
    have z9 := B9.size
    have hc2 := cntG_le cL0 2 k
    have hc4 := cntG_le cL0 4 k
    by_cases hlt : k < cn0
    ·obtain ⟨g, o, rfl, hg, d0, d1, d2⟩ := (HG.out).at hlt
     change _ = some (Value.int .i64 (gAt cL0 k).1) at d0
     change _ = some (Value.int .i64 (gAt cL0 k).2.1) at d1
     change _ = some (Value.int .i64 (gAt cL0 k).2.2) at d2
     rcases gate_cases HK.out (k := k) (by rw [cL0l.out]; exact hlt) with ⟨m, hgt, hmb⟩ | ⟨m, hgt, hmb⟩ | ⟨m, j, hgt, hmb, hjb⟩ | ⟨m, j, hgt, hmb, hjb⟩ | ⟨m, hgt, hmb⟩
     ·rw [hgt] at d0 d1 d2
      dsimp only at d0 d1 d2
      have hG := Lib.hid hgt
      clear hgt
      have e0 : w9.cell? ⟨g, o + k * 3, none⟩ = some (.int .i64 1) := (cellB hg d0)
      have e0_l : g < w9.heap.size := by omega
      have e1 : w9.cell? ⟨g, o + k * 3 + 1, none⟩ = some (.int .i64 (m : Int)) := (cellB hg d1)
      have e1_l : g < w9.heap.size := by omega
      have e2 : w9.cell? ⟨g, o + k * 3 + 2, none⟩ = some (.int .i64 0) := (cellB hg d2)
      have e2_l : g < w9.heap.size := by omega
      have hn2 := Lib.hid (cntG_no (l := cL0) (kind := 2) (k := k) (by rw [hG.out]; show (1 : Int) ≠ 2; decide))
      have hn4 := Lib.hid (cntG_no (l := cL0) (kind := 4) (k := k) (by rw [hG.out]; show (1 : Int) ≠ 4; decide))
      have hmy : m < yn0 := by have := q2.out; omega
      obtain ⟨g2, g2o, rfl, g2h, hc⟩ := HY.out.block (by omega)
      have hcy := hc m (by omega)
      clear hc
      have h2 : w9.cell? ⟨g2, g2o + m, none⟩ = some (.int .i64 (nth yL0 m)) := (cellB g2h hcy)
      have h2_l : g2 < w9.heap.size := by omega
      have hF := Lib.hid (show eXs yL0 pL1 pL0 cL0 (k + 1) = eXs yL0 pL1 pL0 cL0 k ++ [nth yL0 m] by rw [eXs, xNew, hG.out]; rfl)
      obtain ⟨cxc_0, cxc_1, fxc_0, fxc_1⟩ := xc.two
      have l_xc_0 : w.heap.size < w9.heap.size := by omega
      have l_xc_1 : w.heap.size < w9.heap.size + 1 := by omega
      go_wp2_with (at_builtin; go_must (refine append_N rfl _ _ rfl (nth yL0 m) _ rfl rfl (ro.alloc _) (by first | rfl | simp) (by have := hgl.out; omega) ?_); intro qA qn qc w10 ro_ c10)
      have z10 := c10.size
      (try simp only [World.size_alloc, World.size_setCell, size_drew] at z10)
      have B10 : Below w.heap.size w w10 := Below.trans (b := _) (by repeat (with_reducible (first | assumption | exact Below.refl _ _ | refine Below.alloc ?_ (by first | omega | (simp; done) | (simp; omega)) _ | refine Below.setCell ?_ (by first | omega | (simp; done) | (simp; omega)) _ | refine Below.drew ?_ | refine below_drewN ?_ _))) (c10.below (by omega) (by first | omega | (simp [size_drew]; done) | (simp [size_drew]; omega)))
      clear ro; have ro := ro_; clear ro_
      have xc_ : Box w10 (w.heap.size) #[.slice (some ⟨g, o, none⟩) cn0 cc0, (.slice cA1 cn1 cc1)] 27 := (xc.alloc _).chg c10 (by omega)
      clear xc; have xc := xc_; clear xc_
      have xp_ : Box w10 (w.heap.size + 1) #[(.slice pA0 pn0 pc0), (.slice pA1 pn1 pc1), (.slice pA2 pn2 pc2)] 37 := (xp.alloc _).chg c10 (by omega)
      clear xp; have xp := xp_; clear xp_
      have xg_ : Box w10 (w9.heap.size) #[.int .i64 1, .int .i64 (m : Int), .int .i64 0] 74 := (Box.new (g := w9.heap.size) _ #[.int .i64 1, .int .i64 (m : Int), .int .i64 0] 74 (by simp)).chg c10 (by omega)
      have xg := xg_; clear xg_
      rw [← hF.out] at ro
      go_wp2
      go_roundw
      case rel => exact ⟨k + 1, _, _, _, by omega, by go_num, rfl, by rw [hn2.out], by rw [hn4.out], OwnL.widen ro (by omega), xc, xp, B10⟩
      case measure => simp [intOf]; omega
     ·rw [hgt] at d0 d1 d2
      dsimp only at d0 d1 d2
      have hG := Lib.hid hgt
      clear hgt
      have e0 : w9.cell? ⟨g, o + k * 3, none⟩ = some (.int .i64 2) := (cellB hg d0)
      have e0_l : g < w9.heap.size := by omega
      have e1 : w9.cell? ⟨g, o + k * 3 + 1, none⟩ = some (.int .i64 (m : Int)) := (cellB hg d1)
      have e1_l : g < w9.heap.size := by omega
      have e2 : w9.cell? ⟨g, o + k * 3 + 2, none⟩ = some (.int .i64 0) := (cellB hg d2)
      have e2_l : g < w9.heap.size := by omega
      have hn2 := Lib.hid (cntG_yes (l := cL0) (kind := 2) (k := k) (by rw [hG.out]))
      have hn4 := Lib.hid (cntG_no (l := cL0) (kind := 4) (k := k) (by rw [hG.out]; show (2 : Int) ≠ 4; decide))
      have hcl : cntG cL0 2 k < pn1 := by rw [q4.out]; exact cntG_lt hlt (by rw [hG.out])
      obtain ⟨g3, g3o, rfl, g3h, hc⟩ := HC.out.block (by omega)
      have hcd := hc (cntG cL0 2 k) (by omega)
      clear hc
      have h2 : w9.cell? ⟨g3, g3o + cntG cL0 2 k, none⟩ = some (.int .i64 (nth pL1 (cntG cL0 2 k))) := (cellB g3h hcd)
      have h2_l : g3 < w9.heap.size := by omega
      have hF := Lib.hid (show eXs yL0 pL1 pL0 cL0 (k + 1) = eXs yL0 pL1 pL0 cL0 k ++ [nth pL1 (cntG cL0 2 k)] by rw [eXs, xNew, hG.out]; rfl)
      obtain ⟨cxc_0, cxc_1, fxc_0, fxc_1⟩ := xc.two
      have l_xc_0 : w.heap.size < w9.heap.size := by omega
      have l_xc_1 : w.heap.size < w9.heap.size + 1 := by omega
      obtain ⟨cxp_0, cxp_1, cxp_2, fxp_0, fxp_1, fxp_2⟩ := xp.three
      have l_xp_0 : w.heap.size + 1 < w9.heap.size := by omega
      have l_xp_1 : w.heap.size + 1 < w9.heap.size + 1 := by omega
      go_wp2_with (at_builtin; go_must (refine append_N rfl _ _ rfl (nth pL1 (cntG cL0 2 k)) _ rfl rfl (ro.alloc _) (by first | rfl | simp) (by have := hgl.out; omega) ?_); intro qA qn qc w10 ro_ c10)
      have z10 := c10.size
      (try simp only [World.size_alloc, World.size_setCell, size_drew] at z10)
      have B10 : Below w.heap.size w w10 := Below.trans (b := _) (by repeat (with_reducible (first | assumption | exact Below.refl _ _ | refine Below.alloc ?_ (by first | omega | (simp; done) | (simp; omega)) _ | refine Below.setCell ?_ (by first | omega | (simp; done) | (simp; omega)) _ | refine Below.drew ?_ | refine below_drewN ?_ _))) (c10.below (by omega) (by first | omega | (simp [size_drew]; done) | (simp [size_drew]; omega)))
      clear ro; have ro := ro_; clear ro_
      have xc_ : Box w10 (w.heap.size) #[.slice (some ⟨g, o, none⟩) cn0 cc0, (.slice cA1 cn1 cc1)] 27 := (xc.alloc _).chg c10 (by omega)
      clear xc; have xc := xc_; clear xc_
      have xp_ : Box w10 (w.heap.size + 1) #[(.slice pA0 pn0 pc0), .slice (some ⟨g3, g3o, none⟩) pn1 pc1, (.slice pA2 pn2 pc2)] 37 := (xp.alloc _).chg c10 (by omega)
      clear xp; have xp := xp_; clear xp_
      have xg_ : Box w10 (w9.heap.size) #[.int .i64 2, .int .i64 (m : Int), .int .i64 0] 74 := (Box.new (g := w9.heap.size) _ #[.int .i64 2, .int .i64 (m : Int), .int .i64 0] 74 (by simp)).chg c10 (by omega)
      have xg := xg_; clear xg_
      rw [← hF.out] at ro
      go_wp2
      go_roundw
      case rel => exact ⟨k + 1, _, _, _, by omega, by go_num, rfl, by rw [hn2.out]; go_num, by rw [hn4.out], OwnL.widen ro (by omega), xc, xp, B10⟩
      case measure => simp [intOf]; omega
     ·rw [hgt] at d0 d1 d2
      dsimp only at d0 d1 d2
      have hG := Lib.hid hgt
      clear hgt
      have e0 : w9.cell? ⟨g, o + k * 3, none⟩ = some (.int .i64 3) := (cellB hg d0)
      have e0_l : g < w9.heap.size := by omega
      have e1 : w9.cell? ⟨g, o + k * 3 + 1, none⟩ = some (.int .i64 (m : Int)) := (cellB hg d1)
      have e1_l : g < w9.heap.size := by omega
      have e2 : w9.cell? ⟨g, o + k * 3 + 2, none⟩ = some (.int .i64 (j : Int)) := (cellB hg d2)
      have e2_l : g < w9.heap.size := by omega
      have hn2 := Lib.hid (cntG_no (l := cL0) (kind := 2) (k := k) (by rw [hG.out]; show (3 : Int) ≠ 2; decide))
      have hn4 := Lib.hid (cntG_no (l := cL0) (kind := 4) (k := k) (by rw [hG.out]; show (3 : Int) ≠ 4; decide))
      obtain ⟨v1, v2, rfl⟩ := ro.some (by rw [hgl.out]; omega)
      have hom := OwnL.cellAt ro m (by rw [hgl.out]; exact hmb)
      have hoj := OwnL.cellAt ro j (by rw [hgl.out]; exact hjb)
      have v1l : v1 < w9.heap.size := World.block_lt_of_cell? _ _ hom
      have hkv : k ≤ vn := by omega
      have hF := Lib.hid (show eXs yL0 pL1 pL0 cL0 (k + 1) = eXs yL0 pL1 pL0 cL0 k ++ [xo (nth (eXs yL0 pL1 pL0 cL0 k) m) (nth (eXs yL0 pL1 pL0 cL0 k) j)] by rw [eXs, xNew, hG.out]; rfl)
      obtain ⟨cxc_0, cxc_1, fxc_0, fxc_1⟩ := xc.two
      have l_xc_0 : w.heap.size < w9.heap.size := by omega
      have l_xc_1 : w.heap.size < w9.heap.size + 1 := by omega
      go_wp2_with fail
      clear cxc_0 cxc_1 fxc_0 fxc_1 l_xc_0 l_xc_1
      go_wp2_with fail
      generalize hw10 : World.alloc _ _ = w10
      have z10 : w9.heap.size + 1 ≤ w10.heap.size := by rw [← hw10]; simp
      have B10 : Below w.heap.size w w10 := by rw [← hw10]; repeat (with_reducible (first | assumption | exact Below.refl _ _ | refine Below.alloc ?_ (by first | omega | (simp; done) | (simp; omega)) _ | refine Below.setCell ?_ (by first | omega | (simp; done) | (simp; omega)) _ | refine Below.drew ?_ | refine below_drewN ?_ _))
      have hK : ∀ k, k < w9.heap.size → w10.heap[k]? = w9.heap[k]? := by
       intro k hk; rw [← hw10]
       repeat (first | rfl | refine (Below.heap_alloc _ _ _ (by first | omega | (simp; omega))).trans ?_)
      have ro_ := ro.keepBlock (w' := w10) (by omega) (fun k h1 h2 => hK k  (by have := ro.2.1; omega))
      clear ro; have ro := ro_; clear ro_
      have xc_ : Box w10 (w.heap.size) #[.slice (some ⟨g, o, none⟩) cn0 cc0, (.slice cA1 cn1 cc1)] 27 := (by rw [← hw10]; exact (xc.alloc _))
      clear xc; have xc := xc_; clear xc_
      have xp_ : Box w10 (w.heap.size + 1) #[(.slice pA0 pn0 pc0), (.slice pA1 pn1 pc1), (.slice pA2 pn2 pc2)] 37 := (by rw [← hw10]; exact (xp.alloc _))
      clear xp; have xp := xp_; clear xp_
      have xg_ : Box w10 (w9.heap.size) #[.int .i64 3, .int .i64 (m : Int), .int .i64 (j : Int)] 74 := (by rw [← hw10]; exact (Box.new (g := w9.heap.size) _ #[.int .i64 3, .int .i64 (m : Int), .int .i64 (j : Int)] 74 (by simp)))
      have xg := xg_; clear xg_
      clear hw10 hK
      refine wp_region_held_drew (S := fun W => W.cell? ⟨w9.heap.size, 0, none⟩ = some (.int .i64 3) ∧ W.cell? ⟨w9.heap.size, 1, none⟩ = some (.int .i64 (m : Int)) ∧ W.cell? ⟨w9.heap.size, 2, none⟩ = some (.int .i64 (j : Int)) ∧ W.cell? ⟨v1, v2 + m, none⟩ = some (.int .i64 (nth (eXs yL0 pL1 pL0 cL0 k) m)) ∧ W.cell? ⟨v1, v2 + j, none⟩ = some (.int .i64 (nth (eXs yL0 pL1 pL0 cL0 k) j))) (by kernel_rfl) ⟨xg.drew.three.1, xg.drew.three.2.1, xg.drew.three.2.2.1, (OwnL.cellAt (ro.drew) m (by rw [hgl.out]; exact hmb)), (OwnL.cellAt (ro.drew) j (by rw [hgl.out]; exact hjb))⟩ (fun hS => ?_)
      (refine tk 0 hS ?_; (try simp only [Act.put, layA, layB, layC]))
      (refine tk 1 hS ?_; (try simp only [Act.put, layA, layB, layC]))
      (refine tk 2 hS ?_; (try simp only [Act.put, layA, layB, layC]))
      (refine tk 3 hS ?_; (try simp only [Act.put, layA, layB, layC]))
      (refine tk 4 hS ?_; (try simp only [Act.put, layA, layB, layC]))
      (refine tk 5 hS ?_; (try simp only [Act.put, layA, layB, layC]))
      (refine tk 6 hS ?_; (try simp only [Act.put, layA, layB, layC]))
      (refine tk 7 hS ?_; (try simp only [Act.put, layA, layB, layC]))
      (refine tk 8 hS ?_; (try simp only [Act.put, layA, layB, layC]))
      (refine tk 9 hS ?_; (try simp only [Act.put, layA, layB, layC]))
      (refine tk 10 hS ?_; (try simp only [Act.put, layA, layB, layC]))
      (refine tk 11 hS ?_; (try simp only [Act.put, layA, layB, layC]))
      clear hS
      refine wpAnyH_done (by kernel_rfl) ?_ _
      generalize hw11 : World.drew _ = w11
      have z11 : w10.heap.size ≤ w11.heap.size := by rw [← hw11]; simp [size_drew]
      have B11 : Below w.heap.size w w11 := by rw [← hw11]; repeat (with_reducible (first | assumption | exact Below.refl _ _ | refine Below.alloc ?_ (by first | omega | (simp; done) | (simp; omega)) _ | refine Below.setCell ?_ (by first | omega | (simp; done) | (simp; omega)) _ | refine Below.drew ?_ | refine below_drewN ?_ _))
      have hK : ∀ k, k < w10.heap.size → w11.heap[k]? = w10.heap[k]? := by
       intro k hk; rw [← hw11]
       repeat (first | rfl | refine (Below.heap_alloc _ _ _ (by first | omega | (simp; omega))).trans ?_)
      have ro_ := ro.keepBlock (w' := w11) (by omega) (fun k h1 h2 => hK k  (by have := ro.2.1; omega))
      clear ro; have ro := ro_; clear ro_
      have xc_ : Box w11 (w.heap.size) #[.slice (some ⟨g, o, none⟩) cn0 cc0, (.slice cA1 cn1 cc1)] 27 := (by rw [← hw11]; exact xc)
      clear xc; have xc := xc_; clear xc_
      have xp_ : Box w11 (w.heap.size + 1) #[(.slice pA0 pn0 pc0), (.slice pA1 pn1 pc1), (.slice pA2 pn2 pc2)] 37 := (by rw [← hw11]; exact xp)
      clear xp; have xp := xp_; clear xp_
      have xg_ : Box w11 (w9.heap.size) #[.int .i64 3, .int .i64 (m : Int), .int .i64 (j : Int)] 74 := (by rw [← hw11]; exact xg)
      clear xg; have xg := xg_; clear xg_
      clear hw11 hK
      obtain ⟨cxc_0, cxc_1, fxc_0, fxc_1⟩ := xc.two
      have l_xc_0 : w.heap.size < w11.heap.size := by omega
      go_wp2_with (at_builtin; go_must (refine append_N rfl _ _ rfl (xo (nth (eXs yL0 pL1 pL0 cL0 k) m) (nth (eXs yL0 pL1 pL0 cL0 k) j)) _ rfl rfl ro (by first | rfl | simp) (by have := hgl.out; omega) ?_); intro qA qn qc w12 ro_ c12)
      have z12 := c12.size
      (try simp only [World.size_alloc, World.size_setCell, size_drew] at z12)
      have B12 : Below w.heap.size w w12 := Below.trans (b := _) (by repeat (with_reducible (first | assumption | exact Below.refl _ _ | refine Below.alloc ?_ (by first | omega | (simp; done) | (simp; omega)) _ | refine Below.setCell ?_ (by first | omega | (simp; done) | (simp; omega)) _ | refine Below.drew ?_ | refine below_drewN ?_ _))) (c12.below (by omega) (by first | omega | (simp [size_drew]; done) | (simp [size_drew]; omega)))
      clear ro; have ro := ro_; clear ro_
      have xc_ : Box w12 (w.heap.size) #[.slice (some ⟨g, o, none⟩) cn0 cc0, (.slice cA1 cn1 cc1)] 27 := xc.chg c12 (by omega)
      clear xc; have xc := xc_; clear xc_
      have xp_ : Box w12 (w.heap.size + 1) #[(.slice pA0 pn0 pc0), (.slice pA1 pn1 pc1), (.slice pA2 pn2 pc2)] 37 := xp.chg c12 (by omega)
      clear xp; have xp := xp_; clear xp_
      have xg_ : Box w12 (w9.heap.size) #[.int .i64 3, .int .i64 (m : Int), .int .i64 (j : Int)] 74 := xg.chg c12 (by omega)
      clear xg; have xg := xg_; clear xg_
      rw [← hF.out] at ro
      go_wp2
      go_roundw
      case rel => exact ⟨k + 1, _, _, _, by omega, by go_num, rfl, by rw [hn2.out], by rw [hn4.out], OwnL.widen ro (by omega), xc, xp, B12⟩
      case measure => simp [intOf]; omega
     ·rw [hgt] at d0 d1 d2
      dsimp only at d0 d1 d2
      have hG := Lib.hid hgt
      clear hgt
      have e0 : w9.cell? ⟨g, o + k * 3, none⟩ = some (.int .i64 4) := (cellB hg d0)
      have e0_l : g < w9.heap.size := by omega
      have e1 : w9.cell? ⟨g, o + k * 3 + 1, none⟩ = some (.int .i64 (m : Int)) := (cellB hg d1)
      have e1_l : g < w9.heap.size := by omega
      have e2 : w9.cell? ⟨g, o + k * 3 + 2, none⟩ = some (.int .i64 (j : Int)) := (cellB hg d2)
      have e2_l : g < w9.heap.size := by omega
      have hn2 := Lib.hid (cntG_no (l := cL0) (kind := 2) (k := k) (by rw [hG.out]; show (4 : Int) ≠ 2; decide))
      have hn4 := Lib.hid (cntG_yes (l := cL0) (kind := 4) (k := k) (by rw [hG.out]))
      obtain ⟨v1, v2, rfl⟩ := ro.some (by rw [hgl.out]; omega)
      have hom := OwnL.cellAt ro m (by rw [hgl.out]; exact hmb)
      have hoj := OwnL.cellAt ro j (by rw [hgl.out]; exact hjb)
      have v1l : v1 < w9.heap.size := World.block_lt_of_cell? _ _ hom
      have hkv : k ≤ vn := by omega
      have hcl : 2 * cntG cL0 4 k + 1 < pn0 := by rw [q3.out]; have := cntG_lt (kind := 4) hlt (by rw [hG.out]); omega
      obtain ⟨g3, g3o, rfl, g3h, hc⟩ := HT.out.block (by omega)
      obtain ⟨p, hp⟩ : ∃ p : Nat, Hid (p = 2 * cntG cL0 4 k) := ⟨_, rfl⟩
      obtain ⟨p1, hp1⟩ : ∃ p1 : Nat, Hid (p1 = p + 1) := ⟨_, rfl⟩
      have hpb : p < pn0 := by have := hp.out; omega
      have hpb1 : p1 < pn0 := by have := hp.out; have := hp1.out; omega
      have hcd := hc p hpb
      have hce := hc p1 hpb1
      clear hc
      have hw1 : IntKind.i64.wrap (2 * ((cntG cL0 4 k : Nat) : Int)) = (p : Int) := by have := hp.out; (rw [IntKind.wrap_i64]; (first | omega | (unfold wrap64; omega)))
      have hw2 : IntKind.i64.wrap ((p : Int) + 1) = (p1 : Int) := by have := hp1.out; (rw [IntKind.wrap_i64]; (first | omega | (unfold wrap64; omega)))
      have hF := Lib.hid (show eXs yL0 pL1 pL0 cL0 (k + 1) = eXs yL0 pL1 pL0 cL0 k ++ [evAnd (nth (eXs yL0 pL1 pL0 cL0 k) m) (nth (eXs yL0 pL1 pL0 cL0 k) j) (nth pL0 p) (nth pL0 p1) (k : Int)] by rw [eXs, xNew, hG.out, hp1.out, hp.out]; rfl)
      obtain ⟨cxc_0, cxc_1, fxc_0, fxc_1⟩ := xc.two
      have l_xc_0 : w.heap.size < w9.heap.size := by omega
      have l_xc_1 : w.heap.size < w9.heap.size + 1 := by omega
      go_wp2_with fail
      clear cxc_0 cxc_1 fxc_0 fxc_1 l_xc_0 l_xc_1
      obtain ⟨cxp_0, cxp_1, cxp_2, fxp_0, fxp_1, fxp_2⟩ := xp.three
      have l_xp_0 : w.heap.size + 1 < w9.heap.size := by omega
      have l_xp_1 : w.heap.size + 1 < w9.heap.size + 1 := by omega
      go_wp2_with fail
      clear cxp_0 cxp_1 cxp_2 fxp_0 fxp_1 fxp_2 l_xp_0 l_xp_1
      generalize hw10 : World.alloc _ _ = w10
      have z10 : w9.heap.size + 1 ≤ w10.heap.size := by rw [← hw10]; simp
      have B10 : Below w.heap.size w w10 := by rw [← hw10]; repeat (with_reducible (first | assumption | exact Below.refl _ _ | refine Below.alloc ?_ (by first | omega | (simp; done) | (simp; omega)) _ | refine Below.setCell ?_ (by first | omega | (simp; done) | (simp; omega)) _ | refine Below.drew ?_ | refine below_drewN ?_ _))
      have hK : ∀ k, k < w9.heap.size → w10.heap[k]? = w9.heap[k]? := by
       intro k hk; rw [← hw10]
       repeat (first | rfl | refine (Below.heap_alloc _ _ _ (by first | omega | (simp; omega))).trans ?_)
      have ro_ := ro.keepBlock (w' := w10) (by omega) (fun k h1 h2 => hK k  (by have := ro.2.1; omega))
      clear ro; have ro := ro_; clear ro_
      have xc_ : Box w10 (w.heap.size) #[.slice (some ⟨g, o, none⟩) cn0 cc0, (.slice cA1 cn1 cc1)] 27 := (by rw [← hw10]; exact (xc.alloc _))
      clear xc; have xc := xc_; clear xc_
      have xp_ : Box w10 (w.heap.size + 1) #[.slice (some ⟨g3, g3o, none⟩) pn0 pc0, (.slice pA1 pn1 pc1), (.slice pA2 pn2 pc2)] 37 := (by rw [← hw10]; exact (xp.alloc _))
      clear xp; have xp := xp_; clear xp_
      have xg_ : Box w10 (w9.heap.size) #[.int .i64 4, .int .i64 (m : Int), .int .i64 (j : Int)] 74 := (by rw [← hw10]; exact (Box.new (g := w9.heap.size) _ #[.int .i64 4, .int .i64 (m : Int), .int .i64 (j : Int)] 74 (by simp)))
      have xg := xg_; clear xg_
      clear hw10 hK
      refine wp_region_held_drew (S := fun W => W.cell? ⟨w9.heap.size, 0, none⟩ = some (.int .i64 4) ∧ W.cell? ⟨w9.heap.size, 1, none⟩ = some (.int .i64 (m : Int)) ∧ W.cell? ⟨w9.heap.size, 2, none⟩ = some (.int .i64 (j : Int)) ∧ W.cell? ⟨w.heap.size + 1, 0, none⟩ = some (.slice (some ⟨g3, g3o, none⟩) pn0 pc0) ∧ W.cell? ⟨w.heap.size + 1, 1, none⟩ = some ((.slice pA1 pn1 pc1)) ∧ W.cell? ⟨w.heap.size + 1, 2, none⟩ = some ((.slice pA2 pn2 pc2)) ∧ W.cell? ⟨v1, v2 + m, none⟩ = some (.int .i64 (nth (eXs yL0 pL1 pL0 cL0 k) m)) ∧ W.cell? ⟨v1, v2 + j, none⟩ = some (.int .i64 (nth (eXs yL0 pL1 pL0 cL0 k) j)) ∧ W.cell? ⟨g3, g3o + p, none⟩ = some (.int .i64 (nth pL0 p)) ∧ W.cell? ⟨g3, g3o + p1, none⟩ = some (.int .i64 (nth pL0 p1))) (by kernel_rfl) ⟨xg.drew.three.1, xg.drew.three.2.1, xg.drew.three.2.2.1, xp.drew.three.1, xp.drew.three.2.1, xp.drew.three.2.2.1, (OwnL.cellAt (ro.drew) m (by rw [hgl.out]; exact hmb)), (OwnL.cellAt (ro.drew) j (by rw [hgl.out]; exact hjb)), (cellB g3h hcd), (cellB g3h hce)⟩ (fun hS => ?_)
      (refine tk 0 hS ?_; (try simp only [Act.put, layA, layB, layC]))
      (refine tk 1 hS ?_; (try simp only [Act.put, layA, layB, layC]))
      (refine tk 2 hS ?_; (try simp only [Act.put, layA, layB, layC]))
      (refine tk 3 hS ?_; (try simp only [Act.put, layA, layB, layC]))
      (refine tk 4 hS ?_; (try simp only [Act.put, layA, layB, layC]))
      (refine tk 5 hS ?_; (try simp only [Act.put, layA, layB, layC]))
      (refine tk 6 hS ?_; (try simp only [Act.put, layA, layB, layC]))
      (refine tk 7 hS ?_; (try simp only [Act.put, layA, layB, layC]))
      (refine tk 8 hS ?_; (try simp only [Act.put, layA, layB, layC]))
      (refine tk 9 hS ?_; (try simp only [Act.put, layA, layB, layC]))
      (refine tk 10 hS ?_; (try simp only [Act.put, layA, layB, layC]))
      (refine tk 11 hS ?_; (try simp only [Act.put, layA, layB, layC]))
      (refine tk 12 hS ?_; (try simp only [Act.put, layA, layB, layC]))
      (refine tk 13 hS ?_; (try simp only [Act.put, layA, layB, layC]))
      (refine tk 14 hS ?_; (try simp only [Act.put, layA, layB, layC]))
      (refine tk 15 hS ?_; (try simp only [Act.put, layA, layB, layC]))
      (refine tk 16 hS ?_; (try simp only [Act.put, layA, layB, layC]))
      (refine tk 17 hS ?_; (try simp only [Act.put, layA, layB, layC]))
      (refine tk 18 hS ?_; (try simp only [Act.put, layA, layB, layC]))
      (refine tk 19 hS ?_; (try simp only [Act.put, layA, layB, layC]))
      (refine tk 20 hS ?_; (try simp only [Act.put, layA, layB, layC]))
      (refine tk 21 hS ?_; (try simp only [Act.put, layA, layB, layC]))
      (refine tk 22 hS ?_; (try simp only [Act.put, layA, layB, layC]))
      (refine tk 23 hS ?_; (try simp only [Act.put, layA, layB, layC]))
      refine on 24 ?_
      refine callH (by go_simp; (first | done | with_reducible rfl | exact ⟨rfl, rfl⟩)) ?_
      go_at_call 32
      refine (sEvalAnd_any _ _ _ _ _ _).mono ?_
      rintro e w11 ⟨rfl, b11⟩
      clear hS
      have z11 := Below.size b11
      (try simp only [World.size_alloc, World.size_setCell, size_drew] at z11)
      have B11 : Below w.heap.size w w11 := Below.t b11
      have ro_ := (ro.drew.below b11)
      clear ro; have ro := ro_; clear ro_
      have xc_ : Box w11 (w.heap.size) #[.slice (some ⟨g, o, none⟩) cn0 cc0, (.slice cA1 cn1 cc1)] 27 := (Box.b xc.drew b11)
      clear xc; have xc := xc_; clear xc_
      have xp_ : Box w11 (w.heap.size + 1) #[.slice (some ⟨g3, g3o, none⟩) pn0 pc0, (.slice pA1 pn1 pc1), (.slice pA2 pn2 pc2)] 37 := (Box.b xp.drew b11)
      clear xp; have xp := xp_; clear xp_
      have xg_ : Box w11 (w9.heap.size) #[.int .i64 4, .int .i64 (m : Int), .int .i64 (j : Int)] 74 := (Box.b xg.drew b11)
      clear xg; have xg := xg_; clear xg_
      refine ⟨_, rfl, ⟨xg.three.1, xg.three.2.1, xg.three.2.2.1, xp.three.1, xp.three.2.1, xp.three.2.2.1, (OwnL.cellAt (ro) m (by rw [hgl.out]; exact hmb)), (OwnL.cellAt (ro) j (by rw [hgl.out]; exact hjb)), (cellB g3h hcd), (cellB g3h hce)⟩, fun hS => ?_⟩
      (try simp only [Act.put, layA, layB, layC])
      (refine tk 25 hS ?_; (try simp only [Act.put, layA, layB, layC]))
      clear hS
      refine wpAnyH_done (by kernel_rfl) ?_ _
      obtain ⟨cxc_0, cxc_1, fxc_0, fxc_1⟩ := xc.two
      have l_xc_0 : w.heap.size < w11.heap.size := by omega
      go_wp2_with (at_builtin; go_must (refine append_N rfl _ _ rfl (evAnd (nth (eXs yL0 pL1 pL0 cL0 k) m) (nth (eXs yL0 pL1 pL0 cL0 k) j) (nth pL0 p) (nth pL0 p1) (k : Int)) _ rfl rfl ro (by first | rfl | simp) (by have := hgl.out; omega) ?_); intro qA qn qc w12 ro_ c12)
      have z12 := c12.size
      (try simp only [World.size_alloc, World.size_setCell, size_drew] at z12)
      have B12 : Below w.heap.size w w12 := Below.trans (b := _) (by repeat (with_reducible (first | assumption | exact Below.refl _ _ | refine Below.alloc ?_ (by first | omega | (simp; done) | (simp; omega)) _ | refine Below.setCell ?_ (by first | omega | (simp; done) | (simp; omega)) _ | refine Below.drew ?_ | refine below_drewN ?_ _))) (c12.below (by omega) (by first | omega | (simp [size_drew]; done) | (simp [size_drew]; omega)))
      clear ro; have ro := ro_; clear ro_
      have xc_ : Box w12 (w.heap.size) #[.slice (some ⟨g, o, none⟩) cn0 cc0, (.slice cA1 cn1 cc1)] 27 := xc.chg c12 (by omega)
      clear xc; have xc := xc_; clear xc_
      have xp_ : Box w12 (w.heap.size + 1) #[.slice (some ⟨g3, g3o, none⟩) pn0 pc0, (.slice pA1 pn1 pc1), (.slice pA2 pn2 pc2)] 37 := xp.chg c12 (by omega)
      clear xp; have xp := xp_; clear xp_
      have xg_ : Box w12 (w9.heap.size) #[.int .i64 4, .int .i64 (m : Int), .int .i64 (j : Int)] 74 := xg.chg c12 (by omega)
      clear xg; have xg := xg_; clear xg_
      rw [← hF.out] at ro
      go_wp2
      go_roundw
      case rel => exact ⟨k + 1, _, _, _, by omega, by go_num, rfl, by rw [hn2.out], by rw [hn4.out]; go_num, OwnL.widen ro (by omega), xc, xp, B12⟩
      case measure => simp [intOf]; omega
     ·rw [hgt] at d0 d1 d2
      dsimp only at d0 d1 d2
      have hG := Lib.hid hgt
      clear hgt
      have e0 : w9.cell? ⟨g, o + k * 3, none⟩ = some (.int .i64 5) := (cellB hg d0)
      have e0_l : g < w9.heap.size := by omega
      have e1 : w9.cell? ⟨g, o + k * 3 + 1, none⟩ = some (.int .i64 (m : Int)) := (cellB hg d1)
      have e1_l : g < w9.heap.size := by omega
      have e2 : w9.cell? ⟨g, o + k * 3 + 2, none⟩ = some (.int .i64 0) := (cellB hg d2)
      have e2_l : g < w9.heap.size := by omega
      have hn2 := Lib.hid (cntG_no (l := cL0) (kind := 2) (k := k) (by rw [hG.out]; show (5 : Int) ≠ 2; decide))
      have hn4 := Lib.hid (cntG_no (l := cL0) (kind := 4) (k := k) (by rw [hG.out]; show (5 : Int) ≠ 4; decide))
      obtain ⟨v1, v2, rfl⟩ := ro.some (by rw [hgl.out]; omega)
      have hom := OwnL.cellAt ro m (by rw [hgl.out]; exact hmb)
      have v1l : v1 < w9.heap.size := World.block_lt_of_cell? _ _ hom
      have hkv : k ≤ vn := by omega
      have hF := Lib.hid (show eXs yL0 pL1 pL0 cL0 (k + 1) = eXs yL0 pL1 pL0 cL0 k ++ [nth (eXs yL0 pL1 pL0 cL0 k) m] by rw [eXs, xNew, hG.out]; rfl)
      obtain ⟨cxc_0, cxc_1, fxc_0, fxc_1⟩ := xc.two
      have l_xc_0 : w.heap.size < w9.heap.size := by omega
      have l_xc_1 : w.heap.size < w9.heap.size + 1 := by omega
      go_wp2_with (at_builtin; go_must (refine append_N rfl _ _ rfl (nth (eXs yL0 pL1 pL0 cL0 k) m) _ rfl rfl (ro.alloc _) (by first | rfl | simp) (by have := hgl.out; omega) ?_); intro qA qn qc w10 ro_ c10)
      have z10 := c10.size
      (try simp only [World.size_alloc, World.size_setCell, size_drew] at z10)
      have B10 : Below w.heap.size w w10 := Below.trans (b := _) (by repeat (with_reducible (first | assumption | exact Below.refl _ _ | refine Below.alloc ?_ (by first | omega | (simp; done) | (simp; omega)) _ | refine Below.setCell ?_ (by first | omega | (simp; done) | (simp; omega)) _ | refine Below.drew ?_ | refine below_drewN ?_ _))) (c10.below (by omega) (by first | omega | (simp [size_drew]; done) | (simp [size_drew]; omega)))
      clear ro; have ro := ro_; clear ro_
      have xc_ : Box w10 (w.heap.size) #[.slice (some ⟨g, o, none⟩) cn0 cc0, (.slice cA1 cn1 cc1)] 27 := (xc.alloc _).chg c10 (by omega)
      clear xc; have xc := xc_; clear xc_
      have xp_ : Box w10 (w.heap.size + 1) #[(.slice pA0 pn0 pc0), (.slice pA1 pn1 pc1), (.slice pA2 pn2 pc2)] 37 := (xp.alloc _).chg c10 (by omega)
      clear xp; have xp := xp_; clear xp_
      have xg_ : Box w10 (w9.heap.size) #[.int .i64 5, .int .i64 (m : Int), .int .i64 0] 74 := (Box.new (g := w9.heap.size) _ #[.int .i64 5, .int .i64 (m : Int), .int .i64 0] 74 (by simp)).chg c10 (by omega)
      have xg := xg_; clear xg_
      rw [← hF.out] at ro
      go_wp2
      go_roundw
      case rel => exact ⟨k + 1, _, _, _, by omega, by go_num, rfl, by rw [hn2.out], by rw [hn4.out], OwnL.widen ro (by omega), xc, xp, B10⟩
      case measure => simp [intOf]; omega
    ·have hkn : k = cn0 := by omega
     obtain ⟨cxc_0, cxc_1, fxc_0, fxc_1⟩ := xc.two
     have l_xc_0 : w.heap.size < w9.heap.size := by omega
     go_wp2
     refine bodyPost_ret (v := .tuple #[.slice vA vn vc, .bool true]) (by simp [results, go_sem, Try.results79]) rfl ⟨_, _, _, by rw [HO2.out], ?_, ?_⟩
     ·rw [evL_yes HO2.out, cL0l.out, ← hkn]; exact OwnL.widen ro (by omega)
     ·repeat (with_reducible (first | assumption | exact Below.refl _ _ | refine Below.alloc ?_ (by first | omega | (simp; done) | (simp; omega)) _ | refine Below.setCell ?_ (by first | omega | (simp; done) | (simp; omega)) _ | refine Below.drew ?_ | refine below_drewN ?_ _))
set_option maxRecDepth 100000 in
set_option maxHeartbeats 2000000 in
theorem iEvalGarbled_L {cA0 : Option Addr} {cn0 cc0 : Nat} {cL0 : List (Int × Int × Int)} {cA1 : Option Addr} {cn1 cc1 : Nat} {cL1 : List Int} {pA0 : Option Addr} {pn0 pc0 : Nat} {pL0 : List Int} {pA1 : Option Addr} {pn1 pc1 : Nat} {pL1 : List Int} {pA2 : Option Addr} {pn2 pc2 : Nat} {pL2 : List Int} {yA0 : Option Addr} {yn0 yc0 : Nat} {yL0 : List Int} {w : World} (cH : RdL w [((.slice cA0 cn0 cc0), .gates cL0), ((.slice cA1 cn1 cc1), .ints cL1)]) (cL0n : cL0.length ≤ 1048576) (cL1n : cL1.length ≤ 1048576) (pH : RdL w [((.slice pA0 pn0 pc0), .ints pL0), ((.slice pA1 pn1 pc1), .ints pL1), ((.slice pA2 pn2 pc2), .ints pL2)]) (pL0n : pL0.length ≤ 1048576) (pL1n : pL1.length ≤ 1048576) (pL2n : pL2.length ≤ 1048576) (yH : RdL w [((.slice yA0 yn0 yc0), .ints yL0)]) (yL0n : yL0.length ≤ 1048576) :
  Calls Try.prog 26 #[.agg #[(.slice cA0 cn0 cc0), (.slice cA1 cn1 cc1)], .agg #[(.slice pA0 pn0 pc0), (.slice pA1 pn1 pc1), (.slice pA2 pn2 pc2)], (.slice yA0 yn0 yc0)] w fun e w' => ∃ rA0 rn0 rc0, e = .returned (.tuple #[.slice rA0 rn0 rc0, .bool (evOk cL0 cL1 pL0 pL1 pL2 yL0)]) ∧ OwnL w' w.heap.size w'.heap.size [(.slice rA0 rn0 rc0, .ints (evL cL0 cL1 pL0 pL1 pL2 yL0))] ∧ Below w.heap.size w w' := by
 have cL0g : Gates w cA0 cn0 cL0 := RdG.toG (cH ((.slice cA0 cn0 cc0), .gates cL0) (by simp))
 have cL0l := Lib.hid cL0g.1
 have cL0m : cn0 ≤ 1048576 := by rw [← cL0l.out]; exact cL0n
 have cL1i : Ints w cA1 cn1 cL1 := Rd.toInts (cH ((.slice cA1 cn1 cc1), .ints cL1) (by simp))
 have cL1l := Lib.hid cL1i.len
 have cL1m : cn1 ≤ 1048576 := by rw [← cL1l.out]; exact cL1n
 have pL0i : Ints w pA0 pn0 pL0 := Rd.toInts (pH ((.slice pA0 pn0 pc0), .ints pL0) (by simp))
 have pL0l := Lib.hid pL0i.len
 have pL0m : pn0 ≤ 1048576 := by rw [← pL0l.out]; exact pL0n
 have pL1i : Ints w pA1 pn1 pL1 := Rd.toInts (pH ((.slice pA1 pn1 pc1), .ints pL1) (by simp))
 have pL1l := Lib.hid pL1i.len
 have pL1m : pn1 ≤ 1048576 := by rw [← pL1l.out]; exact pL1n
 have pL2i : Ints w pA2 pn2 pL2 := Rd.toInts (pH ((.slice pA2 pn2 pc2), .ints pL2) (by simp))
 have pL2l := Lib.hid pL2i.len
 have pL2m : pn2 ≤ 1048576 := by rw [← pL2l.out]; exact pL2n
 have yL0i : Ints w yA0 yn0 yL0 := Rd.toInts (yH ((.slice yA0 yn0 yc0), .ints yL0) (by simp))
 have yL0l := Lib.hid yL0i.len
 have yL0m : yn0 ≤ 1048576 := by rw [← yL0l.out]; exact yL0n
 cases k1 : pbOk cL0 cL1 pL0 pL1 pL2 with
 | false =>
  have HO2 : Hid (evOk cL0 cL1 pL0 pL1 pL2 yL0 = false) := by show _ = _; rw [evOk, k1]; rfl
  go_enter Try.func26, Try.ntmps26
  go_wp2_with fail
  refine (iPublicOk_L (RdL.b cH) cL0n cL1n (RdL.b pH) pL0n pL1n pL2n).mono ?_
  rintro e w1 ⟨rfl, b1⟩
  have z1 := b1.size
  try simp only [World.size_alloc, World.size_setCell, size_drew] at z1
  have B1 : Below w.heap.size w w1 := Below.t b1
  have xc_ : Box w1 (w.heap.size) #[(.slice cA0 cn0 cc0), (.slice cA1 cn1 cc1)] 27 := ((Box.new (g := w.heap.size) _ #[(.slice cA0 cn0 cc0), (.slice cA1 cn1 cc1)] 27 (by simp)).alloc _).below b1 (by first | omega | (simp [size_drew]; done) | (simp [size_drew]; omega))
  have xc := xc_; clear xc_
  have xp_ : Box w1 (w.heap.size + 1) #[(.slice pA0 pn0 pc0), (.slice pA1 pn1 pc1), (.slice pA2 pn2 pc2)] 37 := (Box.new (g := w.heap.size + 1) _ #[(.slice pA0 pn0 pc0), (.slice pA1 pn1 pc1), (.slice pA2 pn2 pc2)] 37 (by simp)).below b1 (by first | omega | (simp [size_drew]; done) | (simp [size_drew]; omega))
  have xp := xp_; clear xp_
  rw [k1]
  obtain ⟨cxc_0, cxc_1, fxc_0, fxc_1⟩ := xc.two
  have l_xc_0 : w.heap.size < w1.heap.size := by omega
  go_wp2
  refine bodyPost_ret (v := .tuple #[.slice none 0 0, .bool false]) (by simp [results, go_sem, Try.results26]) rfl ⟨none, 0, 0, by rw [HO2.out], ?_, ?_⟩
  ·rw [evL_no HO2.out]; exact OwnL.nones _ (by simp) (by first | omega | (simp [size_drew]; done) | (simp [size_drew]; omega))
  ·repeat (with_reducible (first | assumption | exact Below.refl _ _ | refine Below.alloc ?_ (by first | omega | (simp; done) | (simp; omega)) _ | refine Below.setCell ?_ (by first | omega | (simp; done) | (simp; omega)) _ | refine Below.drew ?_ | refine below_drewN ?_ _))
 | true =>
  cases k2 : ((yn0 : Int) == 80) with
  | false =>
   have HO2 : Hid (evOk cL0 cL1 pL0 pL1 pL2 yL0 = false) := by show _ = _; rw [evOk, k1, labs_split, yL0l.out, k2]; rfl
   have k2' : ((yn0 : Int) != 80) = true := by simp at k2 ⊢; omega
   go_enter Try.func26, Try.ntmps26
   go_wp2_with fail
   refine (iPublicOk_L (RdL.b cH) cL0n cL1n (RdL.b pH) pL0n pL1n pL2n).mono ?_
   rintro e w1 ⟨rfl, b1⟩
   have z1 := b1.size
   try simp only [World.size_alloc, World.size_setCell, size_drew] at z1
   have B1 : Below w.heap.size w w1 := Below.t b1
   have xc_ : Box w1 (w.heap.size) #[(.slice cA0 cn0 cc0), (.slice cA1 cn1 cc1)] 27 := ((Box.new (g := w.heap.size) _ #[(.slice cA0 cn0 cc0), (.slice cA1 cn1 cc1)] 27 (by simp)).alloc _).below b1 (by first | omega | (simp [size_drew]; done) | (simp [size_drew]; omega))
   have xc := xc_; clear xc_
   have xp_ : Box w1 (w.heap.size + 1) #[(.slice pA0 pn0 pc0), (.slice pA1 pn1 pc1), (.slice pA2 pn2 pc2)] 37 := (Box.new (g := w.heap.size + 1) _ #[(.slice pA0 pn0 pc0), (.slice pA1 pn1 pc1), (.slice pA2 pn2 pc2)] 37 (by simp)).below b1 (by first | omega | (simp [size_drew]; done) | (simp [size_drew]; omega))
   have xp := xp_; clear xp_
   rw [k1]
   obtain ⟨cxc_0, cxc_1, fxc_0, fxc_1⟩ := xc.two
   have l_xc_0 : w.heap.size < w1.heap.size := by omega
   go_wp2
   refine bodyPost_ret (v := .tuple #[.slice none 0 0, .bool false]) (by simp [results, go_sem, Try.results26]) rfl ⟨none, 0, 0, by rw [HO2.out], ?_, ?_⟩
   ·rw [evL_no HO2.out]; exact OwnL.nones _ (by simp) (by first | omega | (simp [size_drew]; done) | (simp [size_drew]; omega))
   ·repeat (with_reducible (first | assumption | exact Below.refl _ _ | refine Below.alloc ?_ (by first | omega | (simp; done) | (simp; omega)) _ | refine Below.setCell ?_ (by first | omega | (simp; done) | (simp; omega)) _ | refine Below.drew ?_ | refine below_drewN ?_ _))
  | true =>
   cases k3 : allLab yL0 with
   | false =>
    have HO2 : Hid (evOk cL0 cL1 pL0 pL1 pL2 yL0 = false) := by show _ = _; rw [evOk, k1, labs_split, yL0l.out, k2, k3]; rfl
    have k2' : ((yn0 : Int) != 80) = false := by simp at k2 ⊢; omega
    go_enter Try.func26, Try.ntmps26
    go_wp2_with fail
    refine (iPublicOk_L (RdL.b cH) cL0n cL1n (RdL.b pH) pL0n pL1n pL2n).mono ?_
    rintro e w1 ⟨rfl, b1⟩
    have z1 := b1.size
    try simp only [World.size_alloc, World.size_setCell, size_drew] at z1
    have B1 : Below w.heap.size w w1 := Below.t b1
    have xc_ : Box w1 (w.heap.size) #[(.slice cA0 cn0 cc0), (.slice cA1 cn1 cc1)] 27 := ((Box.new (g := w.heap.size) _ #[(.slice cA0 cn0 cc0), (.slice cA1 cn1 cc1)] 27 (by simp)).alloc _).below b1 (by first | omega | (simp [size_drew]; done) | (simp [size_drew]; omega))
    have xc := xc_; clear xc_
    have xp_ : Box w1 (w.heap.size + 1) #[(.slice pA0 pn0 pc0), (.slice pA1 pn1 pc1), (.slice pA2 pn2 pc2)] 37 := (Box.new (g := w.heap.size + 1) _ #[(.slice pA0 pn0 pc0), (.slice pA1 pn1 pc1), (.slice pA2 pn2 pc2)] 37 (by simp)).below b1 (by first | omega | (simp [size_drew]; done) | (simp [size_drew]; omega))
    have xp := xp_; clear xp_
    rw [k1]
    obtain ⟨cxc_0, cxc_1, fxc_0, fxc_1⟩ := xc.two
    have l_xc_0 : w.heap.size < w1.heap.size := by omega
    go_wp2_with fail
    clear cxc_0 cxc_1 fxc_0 fxc_1 l_xc_0
    refine (areLabels_any _ _ _ _ _ yL0i.b (by omega)).mono ?_
    rintro e w_ ⟨rfl, rfl⟩
    rw [k3]
    obtain ⟨cxc_0, cxc_1, fxc_0, fxc_1⟩ := xc.two
    have l_xc_0 : w.heap.size < w1.heap.size := by omega
    go_wp2
    refine bodyPost_ret (v := .tuple #[.slice none 0 0, .bool false]) (by simp [results, go_sem, Try.results26]) rfl ⟨none, 0, 0, by rw [HO2.out], ?_, ?_⟩
    ·rw [evL_no HO2.out]; exact OwnL.nones _ (by simp) (by first | omega | (simp [size_drew]; done) | (simp [size_drew]; omega))
    ·repeat (with_reducible (first | assumption | exact Below.refl _ _ | refine Below.alloc ?_ (by first | omega | (simp; done) | (simp; omega)) _ | refine Below.setCell ?_ (by first | omega | (simp; done) | (simp; omega)) _ | refine Below.drew ?_ | refine below_drewN ?_ _))
   | true =>
    have HO2 : Hid (evOk cL0 cL1 pL0 pL1 pL2 yL0 = true) := by show _ = _; rw [evOk, k1, labs_split, yL0l.out, k2, k3]; rfl
    have k2' : ((yn0 : Int) != 80) = false := by simp at k2 ⊢; omega
    go_enter Try.func26, Try.ntmps26
    go_wp2_with fail
    refine (iPublicOk_L (RdL.b cH) cL0n cL1n (RdL.b pH) pL0n pL1n pL2n).mono ?_
    rintro e w1 ⟨rfl, b1⟩
    have z1 := b1.size
    try simp only [World.size_alloc, World.size_setCell, size_drew] at z1
    have B1 : Below w.heap.size w w1 := Below.t b1
    have xc_ : Box w1 (w.heap.size) #[(.slice cA0 cn0 cc0), (.slice cA1 cn1 cc1)] 27 := ((Box.new (g := w.heap.size) _ #[(.slice cA0 cn0 cc0), (.slice cA1 cn1 cc1)] 27 (by simp)).alloc _).below b1 (by first | omega | (simp [size_drew]; done) | (simp [size_drew]; omega))
    have xc := xc_; clear xc_
    have xp_ : Box w1 (w.heap.size + 1) #[(.slice pA0 pn0 pc0), (.slice pA1 pn1 pc1), (.slice pA2 pn2 pc2)] 37 := (Box.new (g := w.heap.size + 1) _ #[(.slice pA0 pn0 pc0), (.slice pA1 pn1 pc1), (.slice pA2 pn2 pc2)] 37 (by simp)).below b1 (by first | omega | (simp [size_drew]; done) | (simp [size_drew]; omega))
    have xp := xp_; clear xp_
    rw [k1]
    obtain ⟨cxc_0, cxc_1, fxc_0, fxc_1⟩ := xc.two
    have l_xc_0 : w.heap.size < w1.heap.size := by omega
    go_wp2_with fail
    clear cxc_0 cxc_1 fxc_0 fxc_1 l_xc_0
    refine (areLabels_any _ _ _ _ _ yL0i.b (by omega)).mono ?_
    rintro e w_ ⟨rfl, rfl⟩
    rw [k3]
    have q2 := Lib.hid (show yn0 = 80 by simp at k2; omega)
    have q3 := Lib.hid (show pn0 = 2 * cntG cL0 4 cn0 by have := pb_tab k1; rw [countG, cL0l.out] at this; have := pL0l.out; omega)
    have q4 := Lib.hid (show pn1 = cntG cL0 2 cn0 by have := pb_cst k1; rw [countG, cL0l.out] at this; have := pL1l.out; omega)
    have HK := Lib.hid (pb_circ k1)
    have HG := Lib.hid cL0g
    have HY := Lib.hid yL0i
    have HT := Lib.hid pL0i
    have HC := Lib.hid pL1i
    have hc6 : cn0 ≤ 6000 := by have := circ_len (pb_circ k1); have := cL0l.out; omega
    obtain ⟨cxc_0, cxc_1, fxc_0, fxc_1⟩ := xc.two
    have l_xc_0 : w.heap.size < w1.heap.size := by omega
    have l_xc_1 : w.heap.size < w1.heap.size + 1 := by omega
    go_wp2_with fail
    clear cxc_0 cxc_1 fxc_0 fxc_1 l_xc_0 l_xc_1
    generalize hw2 : World.alloc _ _ = w2
    have z2 : w1.heap.size + 1 ≤ w2.heap.size := by rw [← hw2]; simp
    have B2 : Below w.heap.size w w2 := by rw [← hw2]; repeat (with_reducible (first | assumption | exact Below.refl _ _ | refine Below.alloc ?_ (by first | omega | (simp; done) | (simp; omega)) _ | refine Below.setCell ?_ (by first | omega | (simp; done) | (simp; omega)) _ | refine Below.drew ?_ | refine below_drewN ?_ _))
    have xc_ : Box w2 (w.heap.size) #[(.slice cA0 cn0 cc0), (.slice cA1 cn1 cc1)] 27 := (by rw [← hw2]; exact (xc.alloc _))
    clear xc; have xc := xc_; clear xc_
    have xp_ : Box w2 (w.heap.size + 1) #[(.slice pA0 pn0 pc0), (.slice pA1 pn1 pc1), (.slice pA2 pn2 pc2)] 37 := (by rw [← hw2]; exact (xp.alloc _))
    clear xp; have xp := xp_; clear xp_
    have xo_ : Box w2 (w1.heap.size) #[] 3 := (by rw [← hw2]; exact (Box.new (g := w1.heap.size) _ #[] 3 (by simp)))
    have xo := xo_; clear xo_
    clear hw2
    have ro := OwnL.lit0 xo
    clear xo
    go_loopw [8, 9, 10, 32] (fun v x y i wr => ∃ (k : Nat) (A : Option Addr) (n c : Nat), k ≤ cn0 ∧ i = .int .i64 k ∧ v = .slice A n c ∧ x = .int .i64 (cntG cL0 2 k : Nat) ∧ y = .int .i64 (cntG cL0 4 k : Nat) ∧ Hid (OwnL wr (w.heap.size + 1 + 1) wr.heap.size [(.slice A n c, .ints (eXs yL0 pL1 pL0 cL0 k))]) ∧ Hid (Box wr (w.heap.size) #[(.slice cA0 cn0 cc0), (.slice cA1 cn1 cc1)] 27) ∧ Hid (Box wr (w.heap.size + 1) #[(.slice pA0 pn0 pc0), (.slice pA1 pn1 pc1), (.slice pA2 pn2 pc2)] 37) ∧ Below w.heap.size w wr) (fun v x y i wr => cn0 - (intOf i).toNat)
    case atStart => exact ⟨0, _, _, _, by omega, rfl, rfl, rfl, rfl, OwnL.widen ro (by omega), xc, xp, B2⟩
    case round =>
     obtain ⟨k, vA, vn, vc, hk, rfl, rfl, rfl, rfl, ro, xc, xp, B9⟩ := hrel
     obtain ⟨w9, hw9⟩ : ∃ x, x = wr := ⟨wr, rfl⟩
     subst hw9
     have ro := ro.out
     have xc := xc.out
     have zb_xc := xc.lt
     have xp := xp.out
     have zb_xp := xp.lt
     have hgl := Lib.hid (eXs_len yL0 pL1 pL0 cL0 k)
     have hvn := ro.len
     rw [hgl.out] at hvn
     have z9 := B9.size
     have hc2 := cntG_le cL0 2 k
     have hc4 := cntG_le cL0 4 k
     by_cases hlt : k < cn0
     ·obtain ⟨g, o, rfl, hg, d0, d1, d2⟩ := (HG.out).at hlt
      change _ = some (Value.int .i64 (gAt cL0 k).1) at d0
      change _ = some (Value.int .i64 (gAt cL0 k).2.1) at d1
      change _ = some (Value.int .i64 (gAt cL0 k).2.2) at d2
      rcases gate_cases HK.out (k := k) (by rw [cL0l.out]; exact hlt) with ⟨m, hgt, hmb⟩ | ⟨m, hgt, hmb⟩ | ⟨m, j, hgt, hmb, hjb⟩ | ⟨m, j, hgt, hmb, hjb⟩ | ⟨m, hgt, hmb⟩
      ·rw [hgt] at d0 d1 d2
       dsimp only at d0 d1 d2
       have hG := Lib.hid hgt
       clear hgt
       have e0 : w9.cell? ⟨g, o + k * 3, none⟩ = some (.int .i64 1) := (cellB hg d0)
       have e0_l : g < w9.heap.size := by omega
       have e1 : w9.cell? ⟨g, o + k * 3 + 1, none⟩ = some (.int .i64 (m : Int)) := (cellB hg d1)
       have e1_l : g < w9.heap.size := by omega
       have e2 : w9.cell? ⟨g, o + k * 3 + 2, none⟩ = some (.int .i64 0) := (cellB hg d2)
       have e2_l : g < w9.heap.size := by omega
       have hn2 := Lib.hid (cntG_no (l := cL0) (kind := 2) (k := k) (by rw [hG.out]; show (1 : Int) ≠ 2; decide))
       have hn4 := Lib.hid (cntG_no (l := cL0) (kind := 4) (k := k) (by rw [hG.out]; show (1 : Int) ≠ 4; decide))
       have hmy : m < yn0 := by have := q2.out; omega
       obtain ⟨g2, g2o, rfl, g2h, hc⟩ := HY.out.block (by omega)
       have hcy := hc m (by omega)
       clear hc
       have h2 : w9.cell? ⟨g2, g2o + m, none⟩ = some (.int .i64 (nth yL0 m)) := (cellB g2h hcy)
       have h2_l : g2 < w9.heap.size := by omega
       have hF := Lib.hid (show eXs yL0 pL1 pL0 cL0 (k + 1) = eXs yL0 pL1 pL0 cL0 k ++ [nth yL0 m] by rw [eXs, xNew, hG.out]; rfl)
       obtain ⟨cxc_0, cxc_1, fxc_0, fxc_1⟩ := xc.two
       have l_xc_0 : w.heap.size < w9.heap.size := by omega
       have l_xc_1 : w.heap.size < w9.heap.size + 1 := by omega
       go_wp2_with (at_builtin; go_must (refine append_N rfl _ _ rfl (nth yL0 m) _ rfl rfl (ro.alloc _) (by first | rfl | simp) (by have := hgl.out; omega) ?_); intro qA qn qc w10 ro_ c10)
       have z10 := c10.size
       (try simp only [World.size_alloc, World.size_setCell, size_drew] at z10)
       have B10 : Below w.heap.size w w10 := Below.trans (b := _) (by repeat (with_reducible (first | assumption | exact Below.refl _ _ | refine Below.alloc ?_ (by first | omega | (simp; done) | (simp; omega)) _ | refine Below.setCell ?_ (by first | omega | (simp; done) | (simp; omega)) _ | refine Below.drew ?_ | refine below_drewN ?_ _))) (c10.below (by omega) (by first | omega | (simp [size_drew]; done) | (simp [size_drew]; omega)))
       clear ro; have ro := ro_; clear ro_
       have xc_ : Box w10 (w.heap.size) #[.slice (some ⟨g, o, none⟩) cn0 cc0, (.slice cA1 cn1 cc1)] 27 := (xc.alloc _).chg c10 (by omega)
       clear xc; have xc := xc_; clear xc_
       have xp_ : Box w10 (w.heap.size + 1) #[(.slice pA0 pn0 pc0), (.slice pA1 pn1 pc1), (.slice pA2 pn2 pc2)] 37 := (xp.alloc _).chg c10 (by omega)
       clear xp; have xp := xp_; clear xp_
       have xg_ : Box w10 (w9.heap.size) #[.int .i64 1, .int .i64 (m : Int), .int .i64 0] 74 := (Box.new (g := w9.heap.size) _ #[.int .i64 1, .int .i64 (m : Int), .int .i64 0] 74 (by simp)).chg c10 (by omega)
       have xg := xg_; clear xg_
       rw [← hF.out] at ro
       go_wp2
       go_roundw
       case rel => exact ⟨k + 1, _, _, _, by omega, by go_num, rfl, by rw [hn2.out], by rw [hn4.out], OwnL.widen ro (by omega), xc, xp, B10⟩
       case measure => simp [intOf]; omega
      ·rw [hgt] at d0 d1 d2
       dsimp only at d0 d1 d2
       have hG := Lib.hid hgt
       clear hgt
       have e0 : w9.cell? ⟨g, o + k * 3, none⟩ = some (.int .i64 2) := (cellB hg d0)
       have e0_l : g < w9.heap.size := by omega
       have e1 : w9.cell? ⟨g, o + k * 3 + 1, none⟩ = some (.int .i64 (m : Int)) := (cellB hg d1)
       have e1_l : g < w9.heap.size := by omega
       have e2 : w9.cell? ⟨g, o + k * 3 + 2, none⟩ = some (.int .i64 0) := (cellB hg d2)
       have e2_l : g < w9.heap.size := by omega
       have hn2 := Lib.hid (cntG_yes (l := cL0) (kind := 2) (k := k) (by rw [hG.out]))
       have hn4 := Lib.hid (cntG_no (l := cL0) (kind := 4) (k := k) (by rw [hG.out]; show (2 : Int) ≠ 4; decide))
       have hcl : cntG cL0 2 k < pn1 := by rw [q4.out]; exact cntG_lt hlt (by rw [hG.out])
       obtain ⟨g3, g3o, rfl, g3h, hc⟩ := HC.out.block (by omega)
       have hcd := hc (cntG cL0 2 k) (by omega)
       clear hc
       have h2 : w9.cell? ⟨g3, g3o + cntG cL0 2 k, none⟩ = some (.int .i64 (nth pL1 (cntG cL0 2 k))) := (cellB g3h hcd)
       have h2_l : g3 < w9.heap.size := by omega
       have hF := Lib.hid (show eXs yL0 pL1 pL0 cL0 (k + 1) = eXs yL0 pL1 pL0 cL0 k ++ [nth pL1 (cntG cL0 2 k)] by rw [eXs, xNew, hG.out]; rfl)
       obtain ⟨cxc_0, cxc_1, fxc_0, fxc_1⟩ := xc.two
       have l_xc_0 : w.heap.size < w9.heap.size := by omega
       have l_xc_1 : w.heap.size < w9.heap.size + 1 := by omega
       obtain ⟨cxp_0, cxp_1, cxp_2, fxp_0, fxp_1, fxp_2⟩ := xp.three
       have l_xp_0 : w.heap.size + 1 < w9.heap.size := by omega
       have l_xp_1 : w.heap.size + 1 < w9.heap.size + 1 := by omega
       go_wp2_with (at_builtin; go_must (refine append_N rfl _ _ rfl (nth pL1 (cntG cL0 2 k)) _ rfl rfl (ro.alloc _) (by first | rfl | simp) (by have := hgl.out; omega) ?_); intro qA qn qc w10 ro_ c10)
       have z10 := c10.size
       (try simp only [World.size_alloc, World.size_setCell, size_drew] at z10)
       have B10 : Below w.heap.size w w10 := Below.trans (b := _) (by repeat (with_reducible (first | assumption | exact Below.refl _ _ | refine Below.alloc ?_ (by first | omega | (simp; done) | (simp; omega)) _ | refine Below.setCell ?_ (by first | omega | (simp; done) | (simp; omega)) _ | refine Below.drew ?_ | refine below_drewN ?_ _))) (c10.below (by omega) (by first | omega | (simp [size_drew]; done) | (simp [size_drew]; omega)))
       clear ro; have ro := ro_; clear ro_
       have xc_ : Box w10 (w.heap.size) #[.slice (some ⟨g, o, none⟩) cn0 cc0, (.slice cA1 cn1 cc1)] 27 := (xc.alloc _).chg c10 (by omega)
       clear xc; have xc := xc_; clear xc_
       have xp_ : Box w10 (w.heap.size + 1) #[(.slice pA0 pn0 pc0), .slice (some ⟨g3, g3o, none⟩) pn1 pc1, (.slice pA2 pn2 pc2)] 37 := (xp.alloc _).chg c10 (by omega)
       clear xp; have xp := xp_; clear xp_
       have xg_ : Box w10 (w9.heap.size) #[.int .i64 2, .int .i64 (m : Int), .int .i64 0] 74 := (Box.new (g := w9.heap.size) _ #[.int .i64 2, .int .i64 (m : Int), .int .i64 0] 74 (by simp)).chg c10 (by omega)
       have xg := xg_; clear xg_
       rw [← hF.out] at ro
       go_wp2
       go_roundw
       case rel => exact ⟨k + 1, _, _, _, by omega, by go_num, rfl, by rw [hn2.out]; go_num, by rw [hn4.out], OwnL.widen ro (by omega), xc, xp, B10⟩
       case measure => simp [intOf]; omega
      ·rw [hgt] at d0 d1 d2
       dsimp only at d0 d1 d2
       have hG := Lib.hid hgt
       clear hgt
       have e0 : w9.cell? ⟨g, o + k * 3, none⟩ = some (.int .i64 3) := (cellB hg d0)
       have e0_l : g < w9.heap.size := by omega
       have e1 : w9.cell? ⟨g, o + k * 3 + 1, none⟩ = some (.int .i64 (m : Int)) := (cellB hg d1)
       have e1_l : g < w9.heap.size := by omega
       have e2 : w9.cell? ⟨g, o + k * 3 + 2, none⟩ = some (.int .i64 (j : Int)) := (cellB hg d2)
       have e2_l : g < w9.heap.size := by omega
       have hn2 := Lib.hid (cntG_no (l := cL0) (kind := 2) (k := k) (by rw [hG.out]; show (3 : Int) ≠ 2; decide))
       have hn4 := Lib.hid (cntG_no (l := cL0) (kind := 4) (k := k) (by rw [hG.out]; show (3 : Int) ≠ 4; decide))
       obtain ⟨v1, v2, rfl⟩ := ro.some (by rw [hgl.out]; omega)
       have hom := OwnL.cellAt ro m (by rw [hgl.out]; exact hmb)
       have hoj := OwnL.cellAt ro j (by rw [hgl.out]; exact hjb)
       have v1l : v1 < w9.heap.size := World.block_lt_of_cell? _ _ hom
       have hkv : k ≤ vn := by omega
       have hF := Lib.hid (show eXs yL0 pL1 pL0 cL0 (k + 1) = eXs yL0 pL1 pL0 cL0 k ++ [xo (nth (eXs yL0 pL1 pL0 cL0 k) m) (nth (eXs yL0 pL1 pL0 cL0 k) j)] by rw [eXs, xNew, hG.out]; rfl)
       obtain ⟨cxc_0, cxc_1, fxc_0, fxc_1⟩ := xc.two
       have l_xc_0 : w.heap.size < w9.heap.size := by omega
       have l_xc_1 : w.heap.size < w9.heap.size + 1 := by omega
       go_wp2_with fail
       clear cxc_0 cxc_1 fxc_0 fxc_1 l_xc_0 l_xc_1
       go_wp2_with fail
       generalize hw10 : World.alloc _ _ = w10
       have z10 : w9.heap.size + 1 ≤ w10.heap.size := by rw [← hw10]; simp
       have B10 : Below w.heap.size w w10 := by rw [← hw10]; repeat (with_reducible (first | assumption | exact Below.refl _ _ | refine Below.alloc ?_ (by first | omega | (simp; done) | (simp; omega)) _ | refine Below.setCell ?_ (by first | omega | (simp; done) | (simp; omega)) _ | refine Below.drew ?_ | refine below_drewN ?_ _))
       have hK : ∀ k, k < w9.heap.size → w10.heap[k]? = w9.heap[k]? := by
        intro k hk; rw [← hw10]
        repeat (first | rfl | refine (Below.heap_alloc _ _ _ (by first | omega | (simp; omega))).trans ?_)
       have ro_ := ro.keepBlock (w' := w10) (by omega) (fun k h1 h2 => hK k  (by have := ro.2.1; omega))
       clear ro; have ro := ro_; clear ro_
       have xc_ : Box w10 (w.heap.size) #[.slice (some ⟨g, o, none⟩) cn0 cc0, (.slice cA1 cn1 cc1)] 27 := (by rw [← hw10]; exact (xc.alloc _))
       clear xc; have xc := xc_; clear xc_
       have xp_ : Box w10 (w.heap.size + 1) #[(.slice pA0 pn0 pc0), (.slice pA1 pn1 pc1), (.slice pA2 pn2 pc2)] 37 := (by rw [← hw10]; exact (xp.alloc _))
       clear xp; have xp := xp_; clear xp_
       have xg_ : Box w10 (w9.heap.size) #[.int .i64 3, .int .i64 (m : Int), .int .i64 (j : Int)] 74 := (by rw [← hw10]; exact (Box.new (g := w9.heap.size) _ #[.int .i64 3, .int .i64 (m : Int), .int .i64 (j : Int)] 74 (by simp)))
       have xg := xg_; clear xg_
       clear hw10 hK
       refine wp_region_held_drew (S := fun W => W.cell? ⟨w9.heap.size, 0, none⟩ = some (.int .i64 3) ∧ W.cell? ⟨w9.heap.size, 1, none⟩ = some (.int .i64 (m : Int)) ∧ W.cell? ⟨w9.heap.size, 2, none⟩ = some (.int .i64 (j : Int)) ∧ W.cell? ⟨v1, v2 + m, none⟩ = some (.int .i64 (nth (eXs yL0 pL1 pL0 cL0 k) m)) ∧ W.cell? ⟨v1, v2 + j, none⟩ = some (.int .i64 (nth (eXs yL0 pL1 pL0 cL0 k) j))) (by kernel_rfl) ⟨xg.drew.three.1, xg.drew.three.2.1, xg.drew.three.2.2.1, (OwnL.cellAt (ro.drew) m (by rw [hgl.out]; exact hmb)), (OwnL.cellAt (ro.drew) j (by rw [hgl.out]; exact hjb))⟩ (fun hS => ?_)
       (refine tk 0 hS ?_; (try simp only [Act.put, layA, layB, layC]))
       (refine tk 1 hS ?_; (try simp only [Act.put, layA, layB, layC]))
       (refine tk 2 hS ?_; (try simp only [Act.put, layA, layB, layC]))
       (refine tk 3 hS ?_; (try simp only [Act.put, layA, layB, layC]))
       (refine tk 4 hS ?_; (try simp only [Act.put, layA, layB, layC]))
       (refine tk 5 hS ?_; (try simp only [Act.put, layA, layB, layC]))
       (refine tk 6 hS ?_; (try simp only [Act.put, layA, layB, layC]))
       (refine tk 7 hS ?_; (try simp only [Act.put, layA, layB, layC]))
       (refine tk 8 hS ?_; (try simp only [Act.put, layA, layB, layC]))
       (refine tk 9 hS ?_; (try simp only [Act.put, layA, layB, layC]))
       (refine tk 10 hS ?_; (try simp only [Act.put, layA, layB, layC]))
       (refine tk 11 hS ?_; (try simp only [Act.put, layA, layB, layC]))
       clear hS
       refine wpAnyH_done (by kernel_rfl) ?_ _
       generalize hw11 : World.drew _ = w11
       have z11 : w10.heap.size ≤ w11.heap.size := by rw [← hw11]; simp [size_drew]
       have B11 : Below w.heap.size w w11 := by rw [← hw11]; repeat (with_reducible (first | assumption | exact Below.refl _ _ | refine Below.alloc ?_ (by first | omega | (simp; done) | (simp; omega)) _ | refine Below.setCell ?_ (by first | omega | (simp; done) | (simp; omega)) _ | refine Below.drew ?_ | refine below_drewN ?_ _))
       have hK : ∀ k, k < w10.heap.size → w11.heap[k]? = w10.heap[k]? := by
        intro k hk; rw [← hw11]
        repeat (first | rfl | refine (Below.heap_alloc _ _ _ (by first | omega | (simp; omega))).trans ?_)
       have ro_ := ro.keepBlock (w' := w11) (by omega) (fun k h1 h2 => hK k  (by have := ro.2.1; omega))
       clear ro; have ro := ro_; clear ro_
       have xc_ : Box w11 (w.heap.size) #[.slice (some ⟨g, o, none⟩) cn0 cc0, (.slice cA1 cn1 cc1)] 27 := (by rw [← hw11]; exact xc)
       clear xc; have xc := xc_; clear xc_
       have xp_ : Box w11 (w.heap.size + 1) #[(.slice pA0 pn0 pc0), (.slice pA1 pn1 pc1), (.slice pA2 pn2 pc2)] 37 := (by rw [← hw11]; exact xp)
       clear xp; have xp := xp_; clear xp_
       have xg_ : Box w11 (w9.heap.size) #[.int .i64 3, .int .i64 (m : Int), .int .i64 (j : Int)] 74 := (by rw [← hw11]; exact xg)
       clear xg; have xg := xg_; clear xg_
       clear hw11 hK
       obtain ⟨cxc_0, cxc_1, fxc_0, fxc_1⟩ := xc.two
       have l_xc_0 : w.heap.size < w11.heap.size := by omega
       go_wp2_with (at_builtin; go_must (refine append_N rfl _ _ rfl (xo (nth (eXs yL0 pL1 pL0 cL0 k) m) (nth (eXs yL0 pL1 pL0 cL0 k) j)) _ rfl rfl ro (by first | rfl | simp) (by have := hgl.out; omega) ?_); intro qA qn qc w12 ro_ c12)
       have z12 := c12.size
       (try simp only [World.size_alloc, World.size_setCell, size_drew] at z12)
       have B12 : Below w.heap.size w w12 := Below.trans (b := _) (by repeat (with_reducible (first | assumption | exact Below.refl _ _ | refine Below.alloc ?_ (by first | omega | (simp; done) | (simp; omega)) _ | refine Below.setCell ?_ (by first | omega | (simp; done) | (simp; omega)) _ | refine Below.drew ?_ | refine below_drewN ?_ _))) (c12.below (by omega) (by first | omega | (simp [size_drew]; done) | (simp [size_drew]; omega)))
       clear ro; have ro := ro_; clear ro_
       have xc_ : Box w12 (w.heap.size) #[.slice (some ⟨g, o, none⟩) cn0 cc0, (.slice cA1 cn1 cc1)] 27 := xc.chg c12 (by omega)
       clear xc; have xc := xc_; clear xc_
       have xp_ : Box w12 (w.heap.size + 1) #[(.slice pA0 pn0 pc0), (.slice pA1 pn1 pc1), (.slice pA2 pn2 pc2)] 37 := xp.chg c12 (by omega)
       clear xp; have xp := xp_; clear xp_
       have xg_ : Box w12 (w9.heap.size) #[.int .i64 3, .int .i64 (m : Int), .int .i64 (j : Int)] 74 := xg.chg c12 (by omega)
       clear xg; have xg := xg_; clear xg_
       rw [← hF.out] at ro
       go_wp2
       go_roundw
       case rel => exact ⟨k + 1, _, _, _, by omega, by go_num, rfl, by rw [hn2.out], by rw [hn4.out], OwnL.widen ro (by omega), xc, xp, B12⟩
       case measure => simp [intOf]; omega
      ·rw [hgt] at d0 d1 d2
       dsimp only at d0 d1 d2
       have hG := Lib.hid hgt
       clear hgt
       have e0 : w9.cell? ⟨g, o + k * 3, none⟩ = some (.int .i64 4) := (cellB hg d0)
       have e0_l : g < w9.heap.size := by omega
       have e1 : w9.cell? ⟨g, o + k * 3 + 1, none⟩ = some (.int .i64 (m : Int)) := (cellB hg d1)
       have e1_l : g < w9.heap.size := by omega
       have e2 : w9.cell? ⟨g, o + k * 3 + 2, none⟩ = some (.int .i64 (j : Int)) := (cellB hg d2)
       have e2_l : g < w9.heap.size := by omega
       have hn2 := Lib.hid (cntG_no (l := cL0) (kind := 2) (k := k) (by rw [hG.out]; show (4 : Int) ≠ 2; decide))
       have hn4 := Lib.hid (cntG_yes (l := cL0) (kind := 4) (k := k) (by rw [hG.out]))
       obtain ⟨v1, v2, rfl⟩ := ro.some (by rw [hgl.out]; omega)
       have hom := OwnL.cellAt ro m (by rw [hgl.out]; exact hmb)
       have hoj := OwnL.cellAt ro j (by rw [hgl.out]; exact hjb)
       have v1l : v1 < w9.heap.size := World.block_lt_of_cell? _ _ hom
       have hkv : k ≤ vn := by omega
       have hcl : 2 * cntG cL0 4 k + 1 < pn0 := by rw [q3.out]; have := cntG_lt (kind := 4) hlt (by rw [hG.out]); omega
       obtain ⟨g3, g3o, rfl, g3h, hc⟩ := HT.out.block (by omega)
       obtain ⟨p, hp⟩ : ∃ p : Nat, Hid (p = 2 * cntG cL0 4 k) := ⟨_, rfl⟩
       obtain ⟨p1, hp1⟩ : ∃ p1 : Nat, Hid (p1 = p + 1) := ⟨_, rfl⟩
       have hpb : p < pn0 := by have := hp.out; omega
       have hpb1 : p1 < pn0 := by have := hp.out; have := hp1.out; omega
       have hcd := hc p hpb
       have hce := hc p1 hpb1
       clear hc
       have hw1 : IntKind.i64.wrap (2 * ((cntG cL0 4 k : Nat) : Int)) = (p : Int) := by have := hp.out; (rw [IntKind.wrap_i64]; (first | omega | (unfold wrap64; omega)))
       have hw2 : IntKind.i64.wrap ((p : Int) + 1) = (p1 : Int) := by have := hp1.out; (rw [IntKind.wrap_i64]; (first | omega | (unfold wrap64; omega)))
       have hF := Lib.hid (show eXs yL0 pL1 pL0 cL0 (k + 1) = eXs yL0 pL1 pL0 cL0 k ++ [evAnd (nth (eXs yL0 pL1 pL0 cL0 k) m) (nth (eXs yL0 pL1 pL0 cL0 k) j) (nth pL0 p) (nth pL0 p1) (k : Int)] by rw [eXs, xNew, hG.out, hp1.out, hp.out]; rfl)
       obtain ⟨cxc_0, cxc_1, fxc_0, fxc_1⟩ := xc.two
       have l_xc_0 : w.heap.size < w9.heap.size := by omega
       have l_xc_1 : w.heap.size < w9.heap.size + 1 := by omega
       go_wp2_with fail
       clear cxc_0 cxc_1 fxc_0 fxc_1 l_xc_0 l_xc_1
       obtain ⟨cxp_0, cxp_1, cxp_2, fxp_0, fxp_1, fxp_2⟩ := xp.three
       have l_xp_0 : w.heap.size + 1 < w9.heap.size := by omega
       have l_xp_1 : w.heap.size + 1 < w9.heap.size + 1 := by omega
       go_wp2_with fail
       clear cxp_0 cxp_1 cxp_2 fxp_0 fxp_1 fxp_2 l_xp_0 l_xp_1
       generalize hw10 : World.alloc _ _ = w10
       have z10 : w9.heap.size + 1 ≤ w10.heap.size := by rw [← hw10]; simp
       have B10 : Below w.heap.size w w10 := by rw [← hw10]; repeat (with_reducible (first | assumption | exact Below.refl _ _ | refine Below.alloc ?_ (by first | omega | (simp; done) | (simp; omega)) _ | refine Below.setCell ?_ (by first | omega | (simp; done) | (simp; omega)) _ | refine Below.drew ?_ | refine below_drewN ?_ _))
       have hK : ∀ k, k < w9.heap.size → w10.heap[k]? = w9.heap[k]? := by
        intro k hk; rw [← hw10]
        repeat (first | rfl | refine (Below.heap_alloc _ _ _ (by first | omega | (simp; omega))).trans ?_)
       have ro_ := ro.keepBlock (w' := w10) (by omega) (fun k h1 h2 => hK k  (by have := ro.2.1; omega))
       clear ro; have ro := ro_; clear ro_
       have xc_ : Box w10 (w.heap.size) #[.slice (some ⟨g, o, none⟩) cn0 cc0, (.slice cA1 cn1 cc1)] 27 := (by rw [← hw10]; exact (xc.alloc _))
       clear xc; have xc := xc_; clear xc_
       have xp_ : Box w10 (w.heap.size + 1) #[.slice (some ⟨g3, g3o, none⟩) pn0 pc0, (.slice pA1 pn1 pc1), (.slice pA2 pn2 pc2)] 37 := (by rw [← hw10]; exact (xp.alloc _))
       clear xp; have xp := xp_; clear xp_
       have xg_ : Box w10 (w9.heap.size) #[.int .i64 4, .int .i64 (m : Int), .int .i64 (j : Int)] 74 := (by rw [← hw10]; exact (Box.new (g := w9.heap.size) _ #[.int .i64 4, .int .i64 (m : Int), .int .i64 (j : Int)] 74 (by simp)))
       have xg := xg_; clear xg_
       clear hw10 hK
       refine wp_region_held_drew (S := fun W => W.cell? ⟨w9.heap.size, 0, none⟩ = some (.int .i64 4) ∧ W.cell? ⟨w9.heap.size, 1, none⟩ = some (.int .i64 (m : Int)) ∧ W.cell? ⟨w9.heap.size, 2, none⟩ = some (.int .i64 (j : Int)) ∧ W.cell? ⟨w.heap.size + 1, 0, none⟩ = some (.slice (some ⟨g3, g3o, none⟩) pn0 pc0) ∧ W.cell? ⟨w.heap.size + 1, 1, none⟩ = some ((.slice pA1 pn1 pc1)) ∧ W.cell? ⟨w.heap.size + 1, 2, none⟩ = some ((.slice pA2 pn2 pc2)) ∧ W.cell? ⟨v1, v2 + m, none⟩ = some (.int .i64 (nth (eXs yL0 pL1 pL0 cL0 k) m)) ∧ W.cell? ⟨v1, v2 + j, none⟩ = some (.int .i64 (nth (eXs yL0 pL1 pL0 cL0 k) j)) ∧ W.cell? ⟨g3, g3o + p, none⟩ = some (.int .i64 (nth pL0 p)) ∧ W.cell? ⟨g3, g3o + p1, none⟩ = some (.int .i64 (nth pL0 p1))) (by kernel_rfl) ⟨xg.drew.three.1, xg.drew.three.2.1, xg.drew.three.2.2.1, xp.drew.three.1, xp.drew.three.2.1, xp.drew.three.2.2.1, (OwnL.cellAt (ro.drew) m (by rw [hgl.out]; exact hmb)), (OwnL.cellAt (ro.drew) j (by rw [hgl.out]; exact hjb)), (cellB g3h hcd), (cellB g3h hce)⟩ (fun hS => ?_)
       (refine tk 0 hS ?_; (try simp only [Act.put, layA, layB, layC]))
       (refine tk 1 hS ?_; (try simp only [Act.put, layA, layB, layC]))
       (refine tk 2 hS ?_; (try simp only [Act.put, layA, layB, layC]))
       (refine tk 3 hS ?_; (try simp only [Act.put, layA, layB, layC]))
       (refine tk 4 hS ?_; (try simp only [Act.put, layA, layB, layC]))
       (refine tk 5 hS ?_; (try simp only [Act.put, layA, layB, layC]))
       (refine tk 6 hS ?_; (try simp only [Act.put, layA, layB, layC]))
       (refine tk 7 hS ?_; (try simp only [Act.put, layA, layB, layC]))
       (refine tk 8 hS ?_; (try simp only [Act.put, layA, layB, layC]))
       (refine tk 9 hS ?_; (try simp only [Act.put, layA, layB, layC]))
       (refine tk 10 hS ?_; (try simp only [Act.put, layA, layB, layC]))
       (refine tk 11 hS ?_; (try simp only [Act.put, layA, layB, layC]))
       (refine tk 12 hS ?_; (try simp only [Act.put, layA, layB, layC]))
       (refine tk 13 hS ?_; (try simp only [Act.put, layA, layB, layC]))
       (refine tk 14 hS ?_; (try simp only [Act.put, layA, layB, layC]))
       (refine tk 15 hS ?_; (try simp only [Act.put, layA, layB, layC]))
       (refine tk 16 hS ?_; (try simp only [Act.put, layA, layB, layC]))
       (refine tk 17 hS ?_; (try simp only [Act.put, layA, layB, layC]))
       (refine tk 18 hS ?_; (try simp only [Act.put, layA, layB, layC]))
       (refine tk 19 hS ?_; (try simp only [Act.put, layA, layB, layC]))
       (refine tk 20 hS ?_; (try simp only [Act.put, layA, layB, layC]))
       (refine tk 21 hS ?_; (try simp only [Act.put, layA, layB, layC]))
       (refine tk 22 hS ?_; (try simp only [Act.put, layA, layB, layC]))
       (refine tk 23 hS ?_; (try simp only [Act.put, layA, layB, layC]))
       refine on 24 ?_
       refine callH (by go_simp; (first | done | with_reducible rfl | exact ⟨rfl, rfl⟩)) ?_
       go_at_call 33
       refine (iEvalAnd_any _ _ _ _ _ _).mono ?_
       rintro e w11 ⟨rfl, b11⟩
       clear hS
       have z11 := Below.size b11
       (try simp only [World.size_alloc, World.size_setCell, size_drew] at z11)
       have B11 : Below w.heap.size w w11 := Below.t b11
       have ro_ := (ro.drew.below b11)
       clear ro; have ro := ro_; clear ro_
       have xc_ : Box w11 (w.heap.size) #[.slice (some ⟨g, o, none⟩) cn0 cc0, (.slice cA1 cn1 cc1)] 27 := (Box.b xc.drew b11)
       clear xc; have xc := xc_; clear xc_
       have xp_ : Box w11 (w.heap.size + 1) #[.slice (some ⟨g3, g3o, none⟩) pn0 pc0, (.slice pA1 pn1 pc1), (.slice pA2 pn2 pc2)] 37 := (Box.b xp.drew b11)
       clear xp; have xp := xp_; clear xp_
       have xg_ : Box w11 (w9.heap.size) #[.int .i64 4, .int .i64 (m : Int), .int .i64 (j : Int)] 74 := (Box.b xg.drew b11)
       clear xg; have xg := xg_; clear xg_
       refine ⟨_, rfl, ⟨xg.three.1, xg.three.2.1, xg.three.2.2.1, xp.three.1, xp.three.2.1, xp.three.2.2.1, (OwnL.cellAt (ro) m (by rw [hgl.out]; exact hmb)), (OwnL.cellAt (ro) j (by rw [hgl.out]; exact hjb)), (cellB g3h hcd), (cellB g3h hce)⟩, fun hS => ?_⟩
       (try simp only [Act.put, layA, layB, layC])
       (refine tk 25 hS ?_; (try simp only [Act.put, layA, layB, layC]))
       clear hS
       refine wpAnyH_done (by kernel_rfl) ?_ _
       obtain ⟨cxc_0, cxc_1, fxc_0, fxc_1⟩ := xc.two
       have l_xc_0 : w.heap.size < w11.heap.size := by omega
       go_wp2_with (at_builtin; go_must (refine append_N rfl _ _ rfl (evAnd (nth (eXs yL0 pL1 pL0 cL0 k) m) (nth (eXs yL0 pL1 pL0 cL0 k) j) (nth pL0 p) (nth pL0 p1) (k : Int)) _ rfl rfl ro (by first | rfl | simp) (by have := hgl.out; omega) ?_); intro qA qn qc w12 ro_ c12)
       have z12 := c12.size
       (try simp only [World.size_alloc, World.size_setCell, size_drew] at z12)
       have B12 : Below w.heap.size w w12 := Below.trans (b := _) (by repeat (with_reducible (first | assumption | exact Below.refl _ _ | refine Below.alloc ?_ (by first | omega | (simp; done) | (simp; omega)) _ | refine Below.setCell ?_ (by first | omega | (simp; done) | (simp; omega)) _ | refine Below.drew ?_ | refine below_drewN ?_ _))) (c12.below (by omega) (by first | omega | (simp [size_drew]; done) | (simp [size_drew]; omega)))
       clear ro; have ro := ro_; clear ro_
       have xc_ : Box w12 (w.heap.size) #[.slice (some ⟨g, o, none⟩) cn0 cc0, (.slice cA1 cn1 cc1)] 27 := xc.chg c12 (by omega)
       clear xc; have xc := xc_; clear xc_
       have xp_ : Box w12 (w.heap.size + 1) #[.slice (some ⟨g3, g3o, none⟩) pn0 pc0, (.slice pA1 pn1 pc1), (.slice pA2 pn2 pc2)] 37 := xp.chg c12 (by omega)
       clear xp; have xp := xp_; clear xp_
       have xg_ : Box w12 (w9.heap.size) #[.int .i64 4, .int .i64 (m : Int), .int .i64 (j : Int)] 74 := xg.chg c12 (by omega)
       clear xg; have xg := xg_; clear xg_
       rw [← hF.out] at ro
       go_wp2
       go_roundw
       case rel => exact ⟨k + 1, _, _, _, by omega, by go_num, rfl, by rw [hn2.out], by rw [hn4.out]; go_num, OwnL.widen ro (by omega), xc, xp, B12⟩
       case measure => simp [intOf]; omega
      ·rw [hgt] at d0 d1 d2
       dsimp only at d0 d1 d2
       have hG := Lib.hid hgt
       clear hgt
       have e0 : w9.cell? ⟨g, o + k * 3, none⟩ = some (.int .i64 5) := (cellB hg d0)
       have e0_l : g < w9.heap.size := by omega
       have e1 : w9.cell? ⟨g, o + k * 3 + 1, none⟩ = some (.int .i64 (m : Int)) := (cellB hg d1)
       have e1_l : g < w9.heap.size := by omega
       have e2 : w9.cell? ⟨g, o + k * 3 + 2, none⟩ = some (.int .i64 0) := (cellB hg d2)
       have e2_l : g < w9.heap.size := by omega
       have hn2 := Lib.hid (cntG_no (l := cL0) (kind := 2) (k := k) (by rw [hG.out]; show (5 : Int) ≠ 2; decide))
       have hn4 := Lib.hid (cntG_no (l := cL0) (kind := 4) (k := k) (by rw [hG.out]; show (5 : Int) ≠ 4; decide))
       obtain ⟨v1, v2, rfl⟩ := ro.some (by rw [hgl.out]; omega)
       have hom := OwnL.cellAt ro m (by rw [hgl.out]; exact hmb)
       have v1l : v1 < w9.heap.size := World.block_lt_of_cell? _ _ hom
       have hkv : k ≤ vn := by omega
       have hF := Lib.hid (show eXs yL0 pL1 pL0 cL0 (k + 1) = eXs yL0 pL1 pL0 cL0 k ++ [nth (eXs yL0 pL1 pL0 cL0 k) m] by rw [eXs, xNew, hG.out]; rfl)
       obtain ⟨cxc_0, cxc_1, fxc_0, fxc_1⟩ := xc.two
       have l_xc_0 : w.heap.size < w9.heap.size := by omega
       have l_xc_1 : w.heap.size < w9.heap.size + 1 := by omega
       go_wp2_with (at_builtin; go_must (refine append_N rfl _ _ rfl (nth (eXs yL0 pL1 pL0 cL0 k) m) _ rfl rfl (ro.alloc _) (by first | rfl | simp) (by have := hgl.out; omega) ?_); intro qA qn qc w10 ro_ c10)
       have z10 := c10.size
       (try simp only [World.size_alloc, World.size_setCell, size_drew] at z10)
       have B10 : Below w.heap.size w w10 := Below.trans (b := _) (by repeat (with_reducible (first | assumption | exact Below.refl _ _ | refine Below.alloc ?_ (by first | omega | (simp; done) | (simp; omega)) _ | refine Below.setCell ?_ (by first | omega | (simp; done) | (simp; omega)) _ | refine Below.drew ?_ | refine below_drewN ?_ _))) (c10.below (by omega) (by first | omega | (simp [size_drew]; done) | (simp [size_drew]; omega)))
       clear ro; have ro := ro_; clear ro_
       have xc_ : Box w10 (w.heap.size) #[.slice (some ⟨g, o, none⟩) cn0 cc0, (.slice cA1 cn1 cc1)] 27 := (xc.alloc _).chg c10 (by omega)
       clear xc; have xc := xc_; clear xc_
       have xp_ : Box w10 (w.heap.size + 1) #[(.slice pA0 pn0 pc0), (.slice pA1 pn1 pc1), (.slice pA2 pn2 pc2)] 37 := (xp.alloc _).chg c10 (by omega)
       clear xp; have xp := xp_; clear xp_
       have xg_ : Box w10 (w9.heap.size) #[.int .i64 5, .int .i64 (m : Int), .int .i64 0] 74 := (Box.new (g := w9.heap.size) _ #[.int .i64 5, .int .i64 (m : Int), .int .i64 0] 74 (by simp)).chg c10 (by omega)
       have xg := xg_; clear xg_
       rw [← hF.out] at ro
       go_wp2
       go_roundw
       case rel => exact ⟨k + 1, _, _, _, by omega, by go_num, rfl, by rw [hn2.out], by rw [hn4.out], OwnL.widen ro (by omega), xc, xp, B10⟩
       case measure => simp [intOf]; omega
     ·have hkn : k = cn0 := by omega
      obtain ⟨cxc_0, cxc_1, fxc_0, fxc_1⟩ := xc.two
      have l_xc_0 : w.heap.size < w9.heap.size := by omega
      go_wp2
      refine bodyPost_ret (v := .tuple #[.slice vA vn vc, .bool true]) (by simp [results, go_sem, Try.results26]) rfl ⟨_, _, _, by rw [HO2.out], ?_, ?_⟩
      ·rw [evL_yes HO2.out, cL0l.out, ← hkn]; exact OwnL.widen ro (by omega)
      ·repeat (with_reducible (first | assumption | exact Below.refl _ _ | refine Below.alloc ?_ (by first | omega | (simp; done) | (simp; omega)) _ | refine Below.setCell ?_ (by first | omega | (simp; done) | (simp; omega)) _ | refine Below.drew ?_ | refine below_drewN ?_ _))
end Go.Proofs.Ytodnahpegecpiaa

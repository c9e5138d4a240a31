/- Contracts of Garble. Printed by mac2.py. -/
import Derived.Test.YtodnahpegecpiaaGMath
import Derived.Test.YtodnahpegecpiaaRaC
import Derived.Test.YtodnahpegecpiaaInz
namespace Go.Proofs.Ytodnahpegecpiaa
set_option linter.unusedSimpArgs false
set_option linter.unusedVariables false
open Go.RowKit
def garbOk (l : List (Int × Int × Int)) (o : List Int) (s a : Int) : Bool := circOk l o && dlOk s a
def garD (l : List (Int × Int × Int)) (o : List Int) (s a : Int) : Int := if garbOk l o s a then deltaOf s a else 0
def garZ (l : List (Int × Int × Int)) (o : List Int) (s a : Int) : List Int := if garbOk l o s a then gZs s a (deltaOf s a) l l.length else []
def garT (l : List (Int × Int × Int)) (o : List Int) (s a : Int) : List Int := if garbOk l o s a then gTs s a (deltaOf s a) l l.length else []
section
variable {l : List (Int × Int × Int)} {o : List Int} {s a : Int}
theorem garD_yes (h : garbOk l o s a = true) : garD l o s a = deltaOf s a := by simp [garD, h]
theorem garZ_yes (h : garbOk l o s a = true) : garZ l o s a = gZs s a (deltaOf s a) l l.length := by simp [garZ, h]
theorem garT_yes (h : garbOk l o s a = true) : garT l o s a = gTs s a (deltaOf s a) l l.length := by simp [garT, h]
theorem garD_no (h : garbOk l o s a = false) : garD l o s a = 0 := by simp [garD, h]
theorem garZ_no (h : garbOk l o s a = false) : garZ l o s a = [] := by simp [garZ, h]
theorem garT_no (h : garbOk l o s a = false) : garT l o s a = [] := by simp [garT, h]
end
theorem garZ_len (l : List (Int × Int × Int)) (o : List Int) (s a : Int) : (garZ l o s a).length ≤ l.length := by unfold garZ; split <;> simp [gZs_len]
theorem garT_len (l : List (Int × Int × Int)) (o : List Int) (s a : Int) : (garT l o s a).length ≤ 12000 := by
 unfold garT; split
 ·rename_i h
  have h1 := cntG_le l 4 l.length
  have h2 := circ_len (and_true_of h).1
  rw [gTs_len]; omega
 ·simp
set_option maxRecDepth 100000 in
set_option maxHeartbeats 10000000 in
theorem sGarble_L {cA0 : Option Addr} {cn0 cc0 : Nat} {cL0 : List (Int × Int × Int)} {cA1 : Option Addr} {cn1 cc1 : Nat} {cL1 : List Int} {w : World} (cH : RdL w [((.slice cA0 cn0 cc0), .gates cL0), ((.slice cA1 cn1 cc1), .ints cL1)]) (cL0n : cL0.length ≤ 1048576) (cL1n : cL1.length ≤ 1048576) (tI0 : Int) (tI1 : Int) :
  Calls Try.prog 56 #[.agg #[(.slice cA0 cn0 cc0), (.slice cA1 cn1 cc1)], .agg #[.int .i64 tI0, .int .i64 tI1]] w fun e w' => ∃ rA1 rn1 rc1 rA2 rn2 rc2, e = .returned (.tuple #[.agg #[.int .i64 (garD cL0 cL1 tI0 tI1), .slice rA1 rn1 rc1, .slice rA2 rn2 rc2], .bool (garbOk cL0 cL1 tI0 tI1)]) ∧ OwnL w' w.heap.size w'.heap.size [(.slice rA1 rn1 rc1, .ints (garZ cL0 cL1 tI0 tI1)), (.slice rA2 rn2 rc2, .ints (garT cL0 cL1 tI0 tI1))] ∧ Below w.heap.size w w' := by
 have cL0g : Gates w cA0 cn0 cL0 := RdG.toG (cH ((.slice cA0 cn0 cc0), .gates cL0) (by simp))
 have cL0l := Lib.hid cL0g.1
 have cL0m : cn0 ≤ 1048576 := by rw [← cL0l.out]; exact cL0n
 have cL1i : Ints w cA1 cn1 cL1 := Rd.toInts (cH ((.slice cA1 cn1 cc1), .ints cL1) (by simp))
 have cL1l := Lib.hid cL1i.len
 have cL1m : cn1 ≤ 1048576 := by rw [← cL1l.out]; exact cL1n
 cases k1 : circOk cL0 cL1 with
 | false =>
  have HO2 : Hid (garbOk cL0 cL1 tI0 tI1 = false) := by show _ = _; rw [garbOk, k1]; rfl
  go_enter Try.func56, Try.ntmps56
  go_wp2_with fail
  refine (sCircuitOk_L (RdL.b cH) cL0n cL1n).mono ?_
  rintro e w1 ⟨rfl, b1⟩
  have z1 := b1.size
  try simp only [World.size_alloc, World.size_setCell, size_drew] at z1
  have B1 : Below w.heap.size w w1 := Below.t b1
  have xc_ : Box w1 (w.heap.size) #[(.slice cA0 cn0 cc0), (.slice cA1 cn1 cc1)] 27 := (((Box.new (g := w.heap.size) _ #[(.slice cA0 cn0 cc0), (.slice cA1 cn1 cc1)] 27 (by simp)).alloc _).alloc _).below b1 (by first | omega | (simp [size_drew]; done) | (simp [size_drew]; omega))
  have xc := xc_; clear xc_
  have xt_ : Box w1 (w.heap.size + 1) #[.int .i64 tI0, .int .i64 tI1] 29 := ((Box.new (g := w.heap.size + 1) _ #[.int .i64 tI0, .int .i64 tI1] 29 (by simp)).alloc _).below b1 (by first | omega | (simp [size_drew]; done) | (simp [size_drew]; omega))
  have xt := xt_; clear xt_
  have xr_ : Box w1 (w.heap.size + 1 + 1) #[.int .i64 0, .slice none 0 0, .slice none 0 0] 33 := (Box.new (g := w.heap.size + 1 + 1) _ #[.int .i64 0, .slice none 0 0, .slice none 0 0] 33 (by simp)).below b1 (by first | omega | (simp [size_drew]; done) | (simp [size_drew]; omega))
  have xr := xr_; clear xr_
  rw [k1]
  obtain ⟨cxc_0, cxc_1, fxc_0, fxc_1⟩ := xc.two
  have l_xc_0 : w.heap.size < w1.heap.size := by omega
  obtain ⟨cxt_0, cxt_1, fxt_0, fxt_1⟩ := xt.two
  have l_xt_0 : w.heap.size + 1 < w1.heap.size := by omega
  obtain ⟨cxr_0, cxr_1, cxr_2, fxr_0, fxr_1, fxr_2⟩ := xr.three
  have l_xr_0 : w.heap.size + 1 + 1 < w1.heap.size := by omega
  go_wp2
  refine bodyPost_ret (v := .tuple #[.agg #[.int .i64 0, .slice none 0 0, .slice none 0 0], .bool false]) (by simp [results, Try.results56, go_sem, cxc_0, cxc_1, fxc_0, fxc_1, l_xc_0, cxt_0, cxt_1, fxt_0, fxt_1, l_xt_0, cxr_0, cxr_1, cxr_2, fxr_0, fxr_1, fxr_2, l_xr_0]) rfl ⟨none, 0, 0, none, 0, 0, by rw [garD_no HO2.out, HO2.out], ?_, ?_⟩
  ·rw [garZ_no HO2.out, garT_no HO2.out]; exact OwnL.nones _ (by simp) (by first | omega | (simp [size_drew]; done) | (simp [size_drew]; omega))
  ·repeat (with_reducible (first | assumption | exact Below.refl _ _ | refine Below.alloc ?_ (by first | omega | (simp; done) | (simp; omega)) _ | refine Below.setCell ?_ (by first | omega | (simp; done) | (simp; omega)) _ | refine Below.drew ?_ | refine below_drewN ?_ _))
 | true =>
  cases k2 : dlOk tI0 tI1 with
  | false =>
   have HO2 : Hid (garbOk cL0 cL1 tI0 tI1 = false) := by show _ = _; rw [garbOk, k1, k2]; rfl
   have k2' : (tapeOk tI0 tI1 && decide (tI1 ≤ 900000)) = false := k2
   go_enter Try.func56, Try.ntmps56
   go_wp2_with fail
   refine (sCircuitOk_L (RdL.b cH) cL0n cL1n).mono ?_
   rintro e w1 ⟨rfl, b1⟩
   have z1 := b1.size
   try simp only [World.size_alloc, World.size_setCell, size_drew] at z1
   have B1 : Below w.heap.size w w1 := Below.t b1
   have xc_ : Box w1 (w.heap.size) #[(.slice cA0 cn0 cc0), (.slice cA1 cn1 cc1)] 27 := (((Box.new (g := w.heap.size) _ #[(.slice cA0 cn0 cc0), (.slice cA1 cn1 cc1)] 27 (by simp)).alloc _).alloc _).below b1 (by first | omega | (simp [size_drew]; done) | (simp [size_drew]; omega))
   have xc := xc_; clear xc_
   have xt_ : Box w1 (w.heap.size + 1) #[.int .i64 tI0, .int .i64 tI1] 29 := ((Box.new (g := w.heap.size + 1) _ #[.int .i64 tI0, .int .i64 tI1] 29 (by simp)).alloc _).below b1 (by first | omega | (simp [size_drew]; done) | (simp [size_drew]; omega))
   have xt := xt_; clear xt_
   have xr_ : Box w1 (w.heap.size + 1 + 1) #[.int .i64 0, .slice none 0 0, .slice none 0 0] 33 := (Box.new (g := w.heap.size + 1 + 1) _ #[.int .i64 0, .slice none 0 0, .slice none 0 0] 33 (by simp)).below b1 (by first | omega | (simp [size_drew]; done) | (simp [size_drew]; omega))
   have xr := xr_; clear xr_
   rw [k1]
   obtain ⟨cxc_0, cxc_1, fxc_0, fxc_1⟩ := xc.two
   have l_xc_0 : w.heap.size < w1.heap.size := by omega
   obtain ⟨cxt_0, cxt_1, fxt_0, fxt_1⟩ := xt.two
   have l_xt_0 : w.heap.size + 1 < w1.heap.size := by omega
   go_wp2_with fail
   refine (l06Tape_any tI0 tI1 _).mono ?_
   rintro e w2 ⟨rfl, b2⟩
   clear cxc_0 cxc_1 fxc_0 fxc_1 l_xc_0 cxt_0 cxt_1 fxt_0 fxt_1 l_xt_0
   have z2 := b2.size
   try simp only [World.size_alloc, World.size_setCell, size_drew] at z2
   have B2 : Below w.heap.size w w2 := Below.t b2
   have xc_ : Box w2 (w.heap.size) #[(.slice cA0 cn0 cc0), (.slice cA1 cn1 cc1)] 27 := xc.below b2 (by first | omega | (simp [size_drew]; done) | (simp [size_drew]; omega))
   clear xc; have xc := xc_; clear xc_
   have xt_ : Box w2 (w.heap.size + 1) #[.int .i64 tI0, .int .i64 tI1] 29 := xt.below b2 (by first | omega | (simp [size_drew]; done) | (simp [size_drew]; omega))
   clear xt; have xt := xt_; clear xt_
   have xr_ : Box w2 (w.heap.size + 1 + 1) #[.int .i64 0, .slice none 0 0, .slice none 0 0] 33 := xr.below b2 (by first | omega | (simp [size_drew]; done) | (simp [size_drew]; omega))
   clear xr; have xr := xr_; clear xr_
   obtain ⟨cxt_0, cxt_1, fxt_0, fxt_1⟩ := xt.two
   have l_xt_0 : w.heap.size + 1 < w2.heap.size := by omega
   obtain ⟨cxr_0, cxr_1, cxr_2, fxr_0, fxr_1, fxr_2⟩ := xr.three
   have l_xr_0 : w.heap.size + 1 + 1 < w2.heap.size := by omega
   go_wp2
   refine bodyPost_ret (v := .tuple #[.agg #[.int .i64 0, .slice none 0 0, .slice none 0 0], .bool false]) (by simp [results, Try.results56, go_sem, cxt_0, cxt_1, fxt_0, fxt_1, l_xt_0, cxr_0, cxr_1, cxr_2, fxr_0, fxr_1, fxr_2, l_xr_0]) rfl ⟨none, 0, 0, none, 0, 0, by rw [garD_no HO2.out, HO2.out], ?_, ?_⟩
   ·rw [garZ_no HO2.out, garT_no HO2.out]; exact OwnL.nones _ (by simp) (by first | omega | (simp [size_drew]; done) | (simp [size_drew]; omega))
   ·repeat (with_reducible (first | assumption | exact Below.refl _ _ | refine Below.alloc ?_ (by first | omega | (simp; done) | (simp; omega)) _ | refine Below.setCell ?_ (by first | omega | (simp; done) | (simp; omega)) _ | refine Below.drew ?_ | refine below_drewN ?_ _))
  | true =>
   have HO2 : Hid (garbOk cL0 cL1 tI0 tI1 = true) := by show _ = _; rw [garbOk, k1, k2]; rfl
   have k2' : (tapeOk tI0 tI1 && decide (tI1 ≤ 900000)) = true := k2
   go_enter Try.func56, Try.ntmps56
   go_wp2_with fail
   refine (sCircuitOk_L (RdL.b cH) cL0n cL1n).mono ?_
   rintro e w1 ⟨rfl, b1⟩
   have z1 := b1.size
   try simp only [World.size_alloc, World.size_setCell, size_drew] at z1
   have B1 : Below w.heap.size w w1 := Below.t b1
   have xc_ : Box w1 (w.heap.size) #[(.slice cA0 cn0 cc0), (.slice cA1 cn1 cc1)] 27 := (((Box.new (g := w.heap.size) _ #[(.slice cA0 cn0 cc0), (.slice cA1 cn1 cc1)] 27 (by simp)).alloc _).alloc _).below b1 (by first | omega | (simp [size_drew]; done) | (simp [size_drew]; omega))
   have xc := xc_; clear xc_
   have xt_ : Box w1 (w.heap.size + 1) #[.int .i64 tI0, .int .i64 tI1] 29 := ((Box.new (g := w.heap.size + 1) _ #[.int .i64 tI0, .int .i64 tI1] 29 (by simp)).alloc _).below b1 (by first | omega | (simp [size_drew]; done) | (simp [size_drew]; omega))
   have xt := xt_; clear xt_
   have xr_ : Box w1 (w.heap.size + 1 + 1) #[.int .i64 0, .slice none 0 0, .slice none 0 0] 33 := (Box.new (g := w.heap.size + 1 + 1) _ #[.int .i64 0, .slice none 0 0, .slice none 0 0] 33 (by simp)).below b1 (by first | omega | (simp [size_drew]; done) | (simp [size_drew]; omega))
   have xr := xr_; clear xr_
   rw [k1]
   obtain ⟨cxc_0, cxc_1, fxc_0, fxc_1⟩ := xc.two
   have l_xc_0 : w.heap.size < w1.heap.size := by omega
   obtain ⟨cxt_0, cxt_1, fxt_0, fxt_1⟩ := xt.two
   have l_xt_0 : w.heap.size + 1 < w1.heap.size := by omega
   go_wp2_with fail
   refine (l06Tape_any tI0 tI1 _).mono ?_
   rintro e w2 ⟨rfl, b2⟩
   clear cxc_0 cxc_1 fxc_0 fxc_1 l_xc_0 cxt_0 cxt_1 fxt_0 fxt_1 l_xt_0
   have z2 := b2.size
   try simp only [World.size_alloc, World.size_setCell, size_drew] at z2
   have B2 : Below w.heap.size w w2 := Below.t b2
   have xc_ : Box w2 (w.heap.size) #[(.slice cA0 cn0 cc0), (.slice cA1 cn1 cc1)] 27 := xc.below b2 (by first | omega | (simp [size_drew]; done) | (simp [size_drew]; omega))
   clear xc; have xc := xc_; clear xc_
   have xt_ : Box w2 (w.heap.size + 1) #[.int .i64 tI0, .int .i64 tI1] 29 := xt.below b2 (by first | omega | (simp [size_drew]; done) | (simp [size_drew]; omega))
   clear xt; have xt := xt_; clear xt_
   have xr_ : Box w2 (w.heap.size + 1 + 1) #[.int .i64 0, .slice none 0 0, .slice none 0 0] 33 := xr.below b2 (by first | omega | (simp [size_drew]; done) | (simp [size_drew]; omega))
   clear xr; have xr := xr_; clear xr_
   have hd := k2
   have hT := Lib.hid ((and_true_of hd).1)
   clear hd
   obtain ⟨d, hde⟩ : ∃ d, Hid (deltaOf tI0 tI1 = d) := ⟨_, rfl⟩
   have ld : Hid (lab d = true) := by rw [← hde.out]; exact deltaOf_lab _ _
   have HK := Lib.hid k1
   have HG := Lib.hid cL0g
   have hc6 : cn0 ≤ 6000 := by have := circ_len k1; have := cL0l.out; omega
   obtain ⟨cxt_0, cxt_1, fxt_0, fxt_1⟩ := xt.two
   have l_xt_0 : w.heap.size + 1 < w2.heap.size := by omega
   have l_xt_1 : w.heap.size + 1 < w2.heap.size + 1 := by omega
   go_wp2_with fail
   refine (sDeltaOf_L tI0 tI1).mono ?_
   rintro e w3 ⟨rfl, b3⟩
   clear cxt_0 cxt_1 fxt_0 fxt_1 l_xt_0 l_xt_1
   have z3 := b3.size
   try simp only [World.size_alloc, World.size_setCell, size_drew] at z3
   have B3 : Below w.heap.size w w3 := Below.t b3
   have xc_ : Box w3 (w.heap.size) #[(.slice cA0 cn0 cc0), (.slice cA1 cn1 cc1)] 27 := (xc.alloc _).below b3 (by first | omega | (simp [size_drew]; done) | (simp [size_drew]; omega))
   clear xc; have xc := xc_; clear xc_
   have xt_ : Box w3 (w.heap.size + 1) #[.int .i64 tI0, .int .i64 tI1] 29 := (xt.alloc _).below b3 (by first | omega | (simp [size_drew]; done) | (simp [size_drew]; omega))
   clear xt; have xt := xt_; clear xt_
   have xr_ : Box w3 (w.heap.size + 1 + 1) #[.int .i64 0, .slice none 0 0, .slice none 0 0] 33 := (xr.alloc _).below b3 (by first | omega | (simp [size_drew]; done) | (simp [size_drew]; omega))
   clear xr; have xr := xr_; clear xr_
   have xq_ : Box w3 (w2.heap.size) #[.int .i64 0, .slice none 0 0, .slice none 0 0] 33 := (Box.new (g := w2.heap.size) _ #[.int .i64 0, .slice none 0 0, .slice none 0 0] 33 (by simp)).below b3 (by first | omega | (simp [size_drew]; done) | (simp [size_drew]; omega))
   have xq := xq_; clear xq_
   rw [hde.out]
   obtain ⟨cxq_0, cxq_1, cxq_2, fxq_0, fxq_1, fxq_2⟩ := xq.three
   have l_xq_0 : w2.heap.size < w3.heap.size := by omega
   have l_xq_1 : w2.heap.size < w3.heap.size + 1 := by omega
   obtain ⟨cxc_0, cxc_1, fxc_0, fxc_1⟩ := xc.two
   have l_xc_0 : w.heap.size < w3.heap.size := by omega
   have l_xc_1 : w.heap.size < w3.heap.size + 1 := by omega
   go_wp2_with fail
   clear cxq_0 cxq_1 cxq_2 fxq_0 fxq_1 fxq_2 l_xq_0 l_xq_1 cxc_0 cxc_1 fxc_0 fxc_1 l_xc_0 l_xc_1
   generalize hw4 : World.alloc _ _ = w4
   have z4 : w3.heap.size + 1 ≤ w4.heap.size := by rw [← hw4]; simp
   have B4 : Below w.heap.size w w4 := by rw [← hw4]; repeat (with_reducible (first | assumption | exact Below.refl _ _ | refine Below.alloc ?_ (by first | omega | (simp; done) | (simp; omega)) _ | refine Below.setCell ?_ (by first | omega | (simp; done) | (simp; omega)) _ | refine Below.drew ?_ | refine below_drewN ?_ _))
   have xc_ : Box w4 (w.heap.size) #[(.slice cA0 cn0 cc0), (.slice cA1 cn1 cc1)] 27 := (by rw [← hw4]; exact ((xc.far (by omega)).alloc _))
   clear xc; have xc := xc_; clear xc_
   have xt_ : Box w4 (w.heap.size + 1) #[.int .i64 tI0, .int .i64 tI1] 29 := (by rw [← hw4]; exact ((xt.far (by omega)).alloc _))
   clear xt; have xt := xt_; clear xt_
   have xr_ : Box w4 (w.heap.size + 1 + 1) #[.int .i64 0, .slice none 0 0, .slice none 0 0] 33 := (by rw [← hw4]; exact ((xr.far (by omega)).alloc _))
   clear xr; have xr := xr_; clear xr_
   have xq_ : Box w4 (w2.heap.size) #[.int .i64 d, .slice none 0 0, .slice none 0 0] 33 := (by rw [← hw4]; exact ((xq.setAt (i := 0) (v := .int .i64 d) (ds := #[.int .i64 d, .slice none 0 0, .slice none 0 0]) (by simp)).alloc _))
   clear xq; have xq := xq_; clear xq_
   have xd_ : Box w4 (w3.heap.size) #[.int .i64 tI0, .int .i64 (deltaN tI0 tI1)] 29 := (by rw [← hw4]; exact (Box.new (g := w3.heap.size) _ #[.int .i64 tI0, .int .i64 (deltaN tI0 tI1)] 29 (by simp)))
   have xd := xd_; clear xd_
   clear hw4
   clear xd
   have zq := xq.lt
   have hgb : w.heap.size + 1 + 1 + 1 ≤ w2.heap.size := by omega
   go_loopw [9] (fun i wr => ∃ (k : Nat) (zA : Option Addr) (zn zc : Nat) (tA : Option Addr) (tn tc zl zh tl th : Nat), k ≤ cn0 ∧ i = .int .i64 k ∧ Hid (OwnL wr zl zh [(.slice zA zn zc, .ints (gZs tI0 tI1 d cL0 k))]) ∧ Hid (OwnL wr tl th [(.slice tA tn tc, .ints (gTs tI0 tI1 d cL0 k))]) ∧ (zh ≤ tl ∨ th ≤ zl) ∧ w2.heap.size < zl ∧ w2.heap.size < tl ∧ Hid (Box wr (w.heap.size) #[(.slice cA0 cn0 cc0), (.slice cA1 cn1 cc1)] 27) ∧ Hid (Box wr (w.heap.size + 1) #[.int .i64 tI0, .int .i64 tI1] 29) ∧ Hid (Box wr (w.heap.size + 1 + 1) #[.int .i64 0, .slice none 0 0, .slice none 0 0] 33) ∧ Hid (Box wr w2.heap.size #[.int .i64 d, .slice zA zn zc, .slice tA tn tc] 33) ∧ Below w.heap.size w wr) (fun i wr => cn0 - (intOf i).toNat)
   case atStart => exact ⟨0, none, 0, 0, none, 0, 0, _, _, _, _, by omega, rfl, OwnL.nones (lo := w4.heap.size) [(.slice none 0 0, .ints [])] (by simp) (Nat.le_refl _), OwnL.nones (lo := w4.heap.size) [(.slice none 0 0, .ints [])] (by simp) (Nat.le_refl _), .inl (Nat.le_refl _), by omega, by omega, xc, xt, xr, xq, B4⟩
   case round =>
    obtain ⟨k, zA, zn, zc, tA, tn, tc, zl, zh, tl, th, hk, rfl, rz, rt, hdj, hzl, htl, xc, xt, xr, xq, B9⟩ := hrel
    obtain ⟨w9, hw9⟩ : ∃ x, x = wr := ⟨wr, rfl⟩
    subst hw9
    have rz := rz.out
    have rt := rt.out
    have xc := xc.out
    have zb_xc := xc.lt
    have xt := xt.out
    have zb_xt := xt.lt
    have xr := xr.out
    have zb_xr := xr.lt
    have xq := xq.out
    have zb_xq := xq.lt
    have hgl := Lib.hid (gZs_len tI0 tI1 d cL0 k)
    have htl2 := Lib.hid (gTs_len tI0 tI1 d cL0 k)
    have z9 := B9.size
    have hc4 := cntG_le cL0 4 k
    have hkz : k ≤ zn := by have := rz.len; rw [hgl.out] at this; omega
    have hz1 := rz.1
    have hz2 := rz.2.1
    have ht1 := rt.1
    have ht2 := rt.2.1
    by_cases hlt : k < cn0
    ·obtain ⟨g, o, rfl, hg, d0, d1, d2⟩ := (HG.out).at hlt
     change _ = some (Value.int .i64 (gAt cL0 k).1) at d0
     change _ = some (Value.int .i64 (gAt cL0 k).2.1) at d1
     change _ = some (Value.int .i64 (gAt cL0 k).2.2) at d2
     rcases gate_cases HK.out (k := k) (by rw [cL0l.out]; exact hlt) with ⟨m, hgt, hmb⟩ | ⟨m, hgt, hmb⟩ | ⟨m, j, hgt, hmb, hjb⟩ | ⟨m, j, hgt, hmb, hjb⟩ | ⟨m, hgt, hmb⟩
     ·rw [hgt] at d0 d1 d2
      dsimp only at d0 d1 d2
      have hG := Lib.hid hgt
      clear hgt
      have e0 : w9.cell? ⟨g, o + k * 3, none⟩ = some (.int .i64 1) := (cellB hg d0)
      have e0_l : g < w9.heap.size := by omega
      have e1 : w9.cell? ⟨g, o + k * 3 + 1, none⟩ = some (.int .i64 (m : Int)) := (cellB hg d1)
      have e1_l : g < w9.heap.size := by omega
      have e2 : w9.cell? ⟨g, o + k * 3 + 2, none⟩ = some (.int .i64 0) := (cellB hg d2)
      have e2_l : g < w9.heap.size := by omega
      obtain ⟨cxc_0, cxc_1, fxc_0, fxc_1⟩ := xc.two
      have l_xc_0 : w.heap.size < w9.heap.size := by omega
      have l_xc_1 : w.heap.size < w9.heap.size + 1 := by omega
      obtain ⟨cxt_0, cxt_1, fxt_0, fxt_1⟩ := xt.two
      have l_xt_0 : w.heap.size + 1 < w9.heap.size := by omega
      have l_xt_1 : w.heap.size + 1 < w9.heap.size + 1 := by omega
      go_wp2_with fail
      refine (sInputZero_L tI0 tI1 (m : Int)).mono ?_
      rintro e w10 ⟨rfl, b10⟩
      clear cxc_0 cxc_1 fxc_0 fxc_1 l_xc_0 l_xc_1 cxt_0 cxt_1 fxt_0 fxt_1 l_xt_0 l_xt_1
      have z10 := b10.size
      try simp only [World.size_alloc, World.size_setCell, size_drew] at z10
      have B10 : Below w.heap.size w w10 := Below.t b10
      have rz_ := (rz.alloc _).below b10
      clear rz; have rz := rz_; clear rz_
      have rt_ := (rt.alloc _).below b10
      clear rt; have rt := rt_; clear rt_
      have xc_ : Box w10 (w.heap.size) #[.slice (some ⟨g, o, none⟩) cn0 cc0, (.slice cA1 cn1 cc1)] 27 := (xc.alloc _).below b10 (by first | omega | (simp [size_drew]; done) | (simp [size_drew]; omega))
      clear xc; have xc := xc_; clear xc_
      have xt_ : Box w10 (w.heap.size + 1) #[.int .i64 tI0, .int .i64 tI1] 29 := (xt.alloc _).below b10 (by first | omega | (simp [size_drew]; done) | (simp [size_drew]; omega))
      clear xt; have xt := xt_; clear xt_
      have xr_ : Box w10 (w.heap.size + 1 + 1) #[.int .i64 0, .slice none 0 0, .slice none 0 0] 33 := (xr.alloc _).below b10 (by first | omega | (simp [size_drew]; done) | (simp [size_drew]; omega))
      clear xr; have xr := xr_; clear xr_
      have xq_ : Box w10 (w2.heap.size) #[.int .i64 d, .slice zA zn zc, .slice tA tn tc] 33 := (xq.alloc _).below b10 (by first | omega | (simp [size_drew]; done) | (simp [size_drew]; omega))
      clear xq; have xq := xq_; clear xq_
      have xg_ : Box w10 (w9.heap.size) #[.int .i64 1, .int .i64 (m : Int), .int .i64 0] 74 := (Box.new (g := w9.heap.size) _ #[.int .i64 1, .int .i64 (m : Int), .int .i64 0] 74 (by simp)).below b10 (by first | omega | (simp [size_drew]; done) | (simp [size_drew]; omega))
      have xg := xg_; clear xg_
      have hT2 := Lib.hid (show gTs tI0 tI1 d cL0 (k + 1) = gTs tI0 tI1 d cL0 k by rw [gTs, hG.out, if_neg (by show ¬ (1 : Int) = 4; decide), List.append_nil])
      have hZ2 := Lib.hid (show gZs tI0 tI1 d cL0 (k + 1) = gZs tI0 tI1 d cL0 k ++ [inputZero tI0 tI1 (m : Int)] by rw [gZs, zNew, hG.out]; rfl)
      obtain ⟨cxq_0, cxq_1, cxq_2, fxq_0, fxq_1, fxq_2⟩ := xq.three
      have l_xq_0 : w2.heap.size < w10.heap.size := by omega
      obtain ⟨cxc_0, cxc_1, fxc_0, fxc_1⟩ := xc.two
      have l_xc_0 : w.heap.size < w10.heap.size := by omega
      go_wp2_with ((at_builtin; go_must (refine append_D rfl _ _ rfl rfl (rz.alloc _) rfl (Ints.new (g := w10.heap.size) _ [inputZero tI0 tI1 (m : Int)] 3 (by simp) rfl) (by have := hgl.out; omega) ?_); intro yA yn yc ylo yhi w11 rz_ drz c11; have z11 := c11.size; (try simp only [World.size_alloc, World.size_setCell, size_drew] at z11 drz); have B11 : Below w.heap.size w w11 := Below.trans (b := _) (by repeat (with_reducible (first | assumption | exact Below.refl _ _ | refine Below.alloc ?_ (by first | omega | (simp; done) | (simp; omega)) _ | refine Below.setCell ?_ (by first | omega | (simp; done) | (simp; omega)) _ | refine Below.drew ?_ | refine below_drewN ?_ _))) (c11.below (by omega) (by first | omega | (simp [size_drew]; done) | (simp [size_drew]; omega))); clear rz; have rz := rz_; clear rz_; have rt_ := (rt.alloc _).away c11 (by omega); clear rt; have rt := rt_; clear rt_; have xc_ : Box w11 (w.heap.size) #[.slice (some ⟨g, o, none⟩) cn0 cc0, (.slice cA1 cn1 cc1)] 27 := (xc.alloc _).chg c11 (by omega); clear xc; have xc := xc_; clear xc_; have xt_ : Box w11 (w.heap.size + 1) #[.int .i64 tI0, .int .i64 tI1] 29 := (xt.alloc _).chg c11 (by omega); clear xt; have xt := xt_; clear xt_; have xr_ : Box w11 (w.heap.size + 1 + 1) #[.int .i64 0, .slice none 0 0, .slice none 0 0] 33 := (xr.alloc _).chg c11 (by omega); clear xr; have xr := xr_; clear xr_; have xq_ : Box w11 (w2.heap.size) #[.int .i64 d, .slice zA zn zc, .slice tA tn tc] 33 := (xq.alloc _).chg c11 (by omega); clear xq; have xq := xq_; clear xq_; have xg_ : Box w11 (w9.heap.size) #[.int .i64 1, .int .i64 (m : Int), .int .i64 0] 74 := (xg.alloc _).chg c11 (by omega); clear xg; have xg := xg_; clear xg_; obtain ⟨kxq_0, kxq_1, kxq_2, gxq_0, gxq_1, gxq_2⟩ := xq.three; have yxq := xq.lt))
      rw [← hZ2.out] at rz
      rw [← hT2.out] at rt
      go_wp2
      go_roundw
      case rel => exact ⟨k + 1, _, _, _, _, _, _, _, _, _, _, by omega, by go_num, (rz.setBox (by omega)), (rt.setBox (by omega)), by omega, by omega, by omega, (xc.far (by omega)), (xt.far (by omega)), (xr.far (by omega)), (xq.setAt (i := 1) (v := .slice yA yn yc) (ds := #[.int .i64 d, .slice yA yn yc, .slice tA tn tc]) (by simp)), by repeat (with_reducible (first | assumption | exact Below.refl _ _ | refine Below.alloc ?_ (by first | omega | (simp; done) | (simp; omega)) _ | refine Below.setCell ?_ (by first | omega | (simp; done) | (simp; omega)) _ | refine Below.drew ?_ | refine below_drewN ?_ _))⟩
      case measure => simp [intOf]; omega
     ·rw [hgt] at d0 d1 d2
      dsimp only at d0 d1 d2
      have hG := Lib.hid hgt
      clear hgt
      have e0 : w9.cell? ⟨g, o + k * 3, none⟩ = some (.int .i64 2) := (cellB hg d0)
      have e0_l : g < w9.heap.size := by omega
      have e1 : w9.cell? ⟨g, o + k * 3 + 1, none⟩ = some (.int .i64 (m : Int)) := (cellB hg d1)
      have e1_l : g < w9.heap.size := by omega
      have e2 : w9.cell? ⟨g, o + k * 3 + 2, none⟩ = some (.int .i64 0) := (cellB hg d2)
      have e2_l : g < w9.heap.size := by omega
      obtain ⟨cxc_0, cxc_1, fxc_0, fxc_1⟩ := xc.two
      have l_xc_0 : w.heap.size < w9.heap.size := by omega
      have l_xc_1 : w.heap.size < w9.heap.size + 1 := by omega
      obtain ⟨cxt_0, cxt_1, fxt_0, fxt_1⟩ := xt.two
      have l_xt_0 : w.heap.size + 1 < w9.heap.size := by omega
      have l_xt_1 : w.heap.size + 1 < w9.heap.size + 1 := by omega
      go_wp2_with fail
      refine (sInputZero_L tI0 tI1 (1000 + (k : Int))).mono ?_
      rintro e w10 ⟨rfl, b10⟩
      clear cxc_0 cxc_1 fxc_0 fxc_1 l_xc_0 l_xc_1 cxt_0 cxt_1 fxt_0 fxt_1 l_xt_0 l_xt_1
      have z10 := b10.size
      try simp only [World.size_alloc, World.size_setCell, size_drew] at z10
      have B10 : Below w.heap.size w w10 := Below.t b10
      have rz_ := (rz.alloc _).below b10
      clear rz; have rz := rz_; clear rz_
      have rt_ := (rt.alloc _).below b10
      clear rt; have rt := rt_; clear rt_
      have xc_ : Box w10 (w.heap.size) #[.slice (some ⟨g, o, none⟩) cn0 cc0, (.slice cA1 cn1 cc1)] 27 := (xc.alloc _).below b10 (by first | omega | (simp [size_drew]; done) | (simp [size_drew]; omega))
      clear xc; have xc := xc_; clear xc_
      have xt_ : Box w10 (w.heap.size + 1) #[.int .i64 tI0, .int .i64 tI1] 29 := (xt.alloc _).below b10 (by first | omega | (simp [size_drew]; done) | (simp [size_drew]; omega))
      clear xt; have xt := xt_; clear xt_
      have xr_ : Box w10 (w.heap.size + 1 + 1) #[.int .i64 0, .slice none 0 0, .slice none 0 0] 33 := (xr.alloc _).below b10 (by first | omega | (simp [size_drew]; done) | (simp [size_drew]; omega))
      clear xr; have xr := xr_; clear xr_
      have xq_ : Box w10 (w2.heap.size) #[.int .i64 d, .slice zA zn zc, .slice tA tn tc] 33 := (xq.alloc _).below b10 (by first | omega | (simp [size_drew]; done) | (simp [size_drew]; omega))
      clear xq; have xq := xq_; clear xq_
      have xg_ : Box w10 (w9.heap.size) #[.int .i64 2, .int .i64 (m : Int), .int .i64 0] 74 := (Box.new (g := w9.heap.size) _ #[.int .i64 2, .int .i64 (m : Int), .int .i64 0] 74 (by simp)).below b10 (by first | omega | (simp [size_drew]; done) | (simp [size_drew]; omega))
      have xg := xg_; clear xg_
      have hT2 := Lib.hid (show gTs tI0 tI1 d cL0 (k + 1) = gTs tI0 tI1 d cL0 k by rw [gTs, hG.out, if_neg (by show ¬ (2 : Int) = 4; decide), List.append_nil])
      have hZ2 := Lib.hid (show gZs tI0 tI1 d cL0 (k + 1) = gZs tI0 tI1 d cL0 k ++ [inputZero tI0 tI1 (1000 + (k : Int))] by rw [gZs, zNew, hG.out]; rfl)
      obtain ⟨cxq_0, cxq_1, cxq_2, fxq_0, fxq_1, fxq_2⟩ := xq.three
      have l_xq_0 : w2.heap.size < w10.heap.size := by omega
      obtain ⟨cxc_0, cxc_1, fxc_0, fxc_1⟩ := xc.two
      have l_xc_0 : w.heap.size < w10.heap.size := by omega
      go_wp2_with ((at_builtin; go_must (refine append_D rfl _ _ rfl rfl (rz.alloc _) rfl (Ints.new (g := w10.heap.size) _ [inputZero tI0 tI1 (1000 + (k : Int))] 3 (by simp) rfl) (by have := hgl.out; omega) ?_); intro yA yn yc ylo yhi w11 rz_ drz c11; have z11 := c11.size; (try simp only [World.size_alloc, World.size_setCell, size_drew] at z11 drz); have B11 : Below w.heap.size w w11 := Below.trans (b := _) (by repeat (with_reducible (first | assumption | exact Below.refl _ _ | refine Below.alloc ?_ (by first | omega | (simp; done) | (simp; omega)) _ | refine Below.setCell ?_ (by first | omega | (simp; done) | (simp; omega)) _ | refine Below.drew ?_ | refine below_drewN ?_ _))) (c11.below (by omega) (by first | omega | (simp [size_drew]; done) | (simp [size_drew]; omega))); clear rz; have rz := rz_; clear rz_; have rt_ := (rt.alloc _).away c11 (by omega); clear rt; have rt := rt_; clear rt_; have xc_ : Box w11 (w.heap.size) #[.slice (some ⟨g, o, none⟩) cn0 cc0, (.slice cA1 cn1 cc1)] 27 := (xc.alloc _).chg c11 (by omega); clear xc; have xc := xc_; clear xc_; have xt_ : Box w11 (w.heap.size + 1) #[.int .i64 tI0, .int .i64 tI1] 29 := (xt.alloc _).chg c11 (by omega); clear xt; have xt := xt_; clear xt_; have xr_ : Box w11 (w.heap.size + 1 + 1) #[.int .i64 0, .slice none 0 0, .slice none 0 0] 33 := (xr.alloc _).chg c11 (by omega); clear xr; have xr := xr_; clear xr_; have xq_ : Box w11 (w2.heap.size) #[.int .i64 d, .slice zA zn zc, .slice tA tn tc] 33 := (xq.alloc _).chg c11 (by omega); clear xq; have xq := xq_; clear xq_; have xg_ : Box w11 (w9.heap.size) #[.int .i64 2, .int .i64 (m : Int), .int .i64 0] 74 := (xg.alloc _).chg c11 (by omega); clear xg; have xg := xg_; clear xg_; obtain ⟨kxq_0, kxq_1, kxq_2, gxq_0, gxq_1, gxq_2⟩ := xq.three; have yxq := xq.lt))
      rw [← hZ2.out] at rz
      rw [← hT2.out] at rt
      go_wp2
      go_roundw
      case rel => exact ⟨k + 1, _, _, _, _, _, _, _, _, _, _, by omega, by go_num, (rz.setBox (by omega)), (rt.setBox (by omega)), by omega, by omega, by omega, (xc.far (by omega)), (xt.far (by omega)), (xr.far (by omega)), (xq.setAt (i := 1) (v := .slice yA yn yc) (ds := #[.int .i64 d, .slice yA yn yc, .slice tA tn tc]) (by simp)), by repeat (with_reducible (first | assumption | exact Below.refl _ _ | refine Below.alloc ?_ (by first | omega | (simp; done) | (simp; omega)) _ | refine Below.setCell ?_ (by first | omega | (simp; done) | (simp; omega)) _ | refine Below.drew ?_ | refine below_drewN ?_ _))⟩
      case measure => simp [intOf]; omega
     ·rw [hgt] at d0 d1 d2
      dsimp only at d0 d1 d2
      have hG := Lib.hid hgt
      clear hgt
      have e0 : w9.cell? ⟨g, o + k * 3, none⟩ = some (.int .i64 3) := (cellB hg d0)
      have e0_l : g < w9.heap.size := by omega
      have e1 : w9.cell? ⟨g, o + k * 3 + 1, none⟩ = some (.int .i64 (m : Int)) := (cellB hg d1)
      have e1_l : g < w9.heap.size := by omega
      have e2 : w9.cell? ⟨g, o + k * 3 + 2, none⟩ = some (.int .i64 (j : Int)) := (cellB hg d2)
      have e2_l : g < w9.heap.size := by omega
      obtain ⟨v1, v2, rfl⟩ := rz.some (by rw [hgl.out]; omega)
      have hom := OwnL.cellAt rz m (by rw [hgl.out]; exact hmb)
      have hoj := OwnL.cellAt rz j (by rw [hgl.out]; exact hjb)
      have v1l : v1 < w9.heap.size := World.block_lt_of_cell? _ _ hom
      have hzbm : m < zn := by omega
      have hzbj : j < zn := by omega
      obtain ⟨cxc_0, cxc_1, fxc_0, fxc_1⟩ := xc.two
      have l_xc_0 : w.heap.size < w9.heap.size := by omega
      have l_xc_1 : w.heap.size < w9.heap.size + 1 := by omega
      go_wp2_with fail
      clear cxc_0 cxc_1 fxc_0 fxc_1 l_xc_0 l_xc_1
      obtain ⟨cxq_0, cxq_1, cxq_2, fxq_0, fxq_1, fxq_2⟩ := xq.three
      have l_xq_0 : w2.heap.size < w9.heap.size := by omega
      have l_xq_1 : w2.heap.size < w9.heap.size + 1 := by omega
      go_wp2_with fail
      clear cxq_0 cxq_1 cxq_2 fxq_0 fxq_1 fxq_2 l_xq_0 l_xq_1
      generalize hw10 : World.alloc _ _ = w10
      have z10 : w9.heap.size + 1 ≤ w10.heap.size := by rw [← hw10]; simp
      have B10 : Below w.heap.size w w10 := by rw [← hw10]; repeat (with_reducible (first | assumption | exact Below.refl _ _ | refine Below.alloc ?_ (by first | omega | (simp; done) | (simp; omega)) _ | refine Below.setCell ?_ (by first | omega | (simp; done) | (simp; omega)) _ | refine Below.drew ?_ | refine below_drewN ?_ _))
      have hK : ∀ k, k < w9.heap.size → w10.heap[k]? = w9.heap[k]? := by
       intro k hk; rw [← hw10]
       repeat (first | rfl | refine (Below.heap_alloc _ _ _ (by first | omega | (simp; omega))).trans ?_)
      have rz_ := rz.keepBlock (w' := w10) (by omega) (fun k h1 h2 => hK k  (by have := rz.2.1; omega))
      clear rz; have rz := rz_; clear rz_
      have rt_ := rt.keepBlock (w' := w10) (by omega) (fun k h1 h2 => hK k  (by have := rt.2.1; omega))
      clear rt; have rt := rt_; clear rt_
      have xc_ : Box w10 (w.heap.size) #[.slice (some ⟨g, o, none⟩) cn0 cc0, (.slice cA1 cn1 cc1)] 27 := (by rw [← hw10]; exact (xc.alloc _))
      clear xc; have xc := xc_; clear xc_
      have xt_ : Box w10 (w.heap.size + 1) #[.int .i64 tI0, .int .i64 tI1] 29 := (by rw [← hw10]; exact (xt.alloc _))
      clear xt; have xt := xt_; clear xt_
      have xr_ : Box w10 (w.heap.size + 1 + 1) #[.int .i64 0, .slice none 0 0, .slice none 0 0] 33 := (by rw [← hw10]; exact (xr.alloc _))
      clear xr; have xr := xr_; clear xr_
      have xq_ : Box w10 (w2.heap.size) #[.int .i64 d, .slice (some ⟨v1, v2, none⟩) zn zc, .slice tA tn tc] 33 := (by rw [← hw10]; exact (xq.alloc _))
      clear xq; have xq := xq_; clear xq_
      have xg_ : Box w10 (w9.heap.size) #[.int .i64 3, .int .i64 (m : Int), .int .i64 (j : Int)] 74 := (by rw [← hw10]; exact (Box.new (g := w9.heap.size) _ #[.int .i64 3, .int .i64 (m : Int), .int .i64 (j : Int)] 74 (by simp)))
      have xg := xg_; clear xg_
      clear hw10 hK
      refine wp_region_held_drew (S := fun W => W.cell? ⟨w2.heap.size, 0, none⟩ = some (.int .i64 d) ∧ W.cell? ⟨w2.heap.size, 1, none⟩ = some (.slice (some ⟨v1, v2, none⟩) zn zc) ∧ W.cell? ⟨w2.heap.size, 2, none⟩ = some (.slice tA tn tc) ∧ W.cell? ⟨w9.heap.size, 0, none⟩ = some (.int .i64 3) ∧ W.cell? ⟨w9.heap.size, 1, none⟩ = some (.int .i64 (m : Int)) ∧ W.cell? ⟨w9.heap.size, 2, none⟩ = some (.int .i64 (j : Int)) ∧ W.cell? ⟨v1, v2 + m, none⟩ = some (.int .i64 (nth (gZs tI0 tI1 d cL0 k) m)) ∧ W.cell? ⟨v1, v2 + j, none⟩ = some (.int .i64 (nth (gZs tI0 tI1 d cL0 k) j))) (by kernel_rfl) ⟨xq.drew.three.1, xq.drew.three.2.1, xq.drew.three.2.2.1, xg.drew.three.1, xg.drew.three.2.1, xg.drew.three.2.2.1, (OwnL.cellAt (rz.drew) m (by rw [hgl.out]; exact hmb)), (OwnL.cellAt (rz.drew) j (by rw [hgl.out]; exact hjb))⟩ (fun hS => ?_)
      (refine tk 0 hS ?_; (try simp only [Act.put, layA, layB, layC]))
      (refine tk 1 hS ?_; (try simp only [Act.put, layA, layB, layC]))
      (refine tk 2 hS ?_; (try simp only [Act.put, layA, layB, layC]))
      (refine tk 3 hS ?_; (try simp only [Act.put, layA, layB, layC]))
      (refine tk 4 hS ?_; (try simp only [Act.put, layA, layB, layC]))
      (refine tk 5 hS ?_; (try simp only [Act.put, layA, layB, layC]))
      (refine tk 6 hS ?_; (try simp only [Act.put, layA, layB, layC]))
      (refine tk 7 hS ?_; (try simp only [Act.put, layA, layB, layC]))
      (refine tk 8 hS ?_; (try simp only [Act.put, layA, layB, layC]))
      (refine tk 9 hS ?_; (try simp only [Act.put, layA, layB, layC]))
      (refine tk 10 hS ?_; (try simp only [Act.put, layA, layB, layC]))
      (refine tk 11 hS ?_; (try simp only [Act.put, layA, layB, layC]))
      (refine tk 12 hS ?_; (try simp only [Act.put, layA, layB, layC]))
      (refine tk 13 hS ?_; (try simp only [Act.put, layA, layB, layC]))
      clear hS
      refine wpAnyH_done (by kernel_rfl) ?_ _
      generalize hw11 : World.drew _ = w11
      have z11 : w10.heap.size ≤ w11.heap.size := by rw [← hw11]; simp [size_drew]
      have B11 : Below w.heap.size w w11 := by rw [← hw11]; repeat (with_reducible (first | assumption | exact Below.refl _ _ | refine Below.alloc ?_ (by first | omega | (simp; done) | (simp; omega)) _ | refine Below.setCell ?_ (by first | omega | (simp; done) | (simp; omega)) _ | refine Below.drew ?_ | refine below_drewN ?_ _))
      have hK : ∀ k, k < w10.heap.size → w11.heap[k]? = w10.heap[k]? := by
       intro k hk; rw [← hw11]
       repeat (first | rfl | refine (Below.heap_alloc _ _ _ (by first | omega | (simp; omega))).trans ?_)
      have rz_ := rz.keepBlock (w' := w11) (by omega) (fun k h1 h2 => hK k  (by have := rz.2.1; omega))
      clear rz; have rz := rz_; clear rz_
      have rt_ := rt.keepBlock (w' := w11) (by omega) (fun k h1 h2 => hK k  (by have := rt.2.1; omega))
      clear rt; have rt := rt_; clear rt_
      have xc_ : Box w11 (w.heap.size) #[.slice (some ⟨g, o, none⟩) cn0 cc0, (.slice cA1 cn1 cc1)] 27 := (by rw [← hw11]; exact xc)
      clear xc; have xc := xc_; clear xc_
      have xt_ : Box w11 (w.heap.size + 1) #[.int .i64 tI0, .int .i64 tI1] 29 := (by rw [← hw11]; exact xt)
      clear xt; have xt := xt_; clear xt_
      have xr_ : Box w11 (w.heap.size + 1 + 1) #[.int .i64 0, .slice none 0 0, .slice none 0 0] 33 := (by rw [← hw11]; exact xr)
      clear xr; have xr := xr_; clear xr_
      have xq_ : Box w11 (w2.heap.size) #[.int .i64 d, .slice (some ⟨v1, v2, none⟩) zn zc, .slice tA tn tc] 33 := (by rw [← hw11]; exact xq)
      clear xq; have xq := xq_; clear xq_
      have xg_ : Box w11 (w9.heap.size) #[.int .i64 3, .int .i64 (m : Int), .int .i64 (j : Int)] 74 := (by rw [← hw11]; exact xg)
      clear xg; have xg := xg_; clear xg_
      clear hw11 hK
      have hT2 := Lib.hid (show gTs tI0 tI1 d cL0 (k + 1) = gTs tI0 tI1 d cL0 k by rw [gTs, hG.out, if_neg (by show ¬ (3 : Int) = 4; decide), List.append_nil])
      have hZ2 := Lib.hid (show gZs tI0 tI1 d cL0 (k + 1) = gZs tI0 tI1 d cL0 k ++ [xo (nth (gZs tI0 tI1 d cL0 k) m) (nth (gZs tI0 tI1 d cL0 k) j)] by rw [gZs, zNew, hG.out]; rfl)
      obtain ⟨cxq_0, cxq_1, cxq_2, fxq_0, fxq_1, fxq_2⟩ := xq.three
      have l_xq_0 : w2.heap.size < w11.heap.size := by omega
      obtain ⟨cxc_0, cxc_1, fxc_0, fxc_1⟩ := xc.two
      have l_xc_0 : w.heap.size < w11.heap.size := by omega
      go_wp2_with ((at_builtin; go_must (refine append_D rfl _ _ rfl rfl (rz.alloc _) rfl (Ints.new (g := w11.heap.size) _ [xo (nth (gZs tI0 tI1 d cL0 k) m) (nth (gZs tI0 tI1 d cL0 k) j)] 3 (by simp) rfl) (by have := hgl.out; omega) ?_); intro yA yn yc ylo yhi w12 rz_ drz c12; have z12 := c12.size; (try simp only [World.size_alloc, World.size_setCell, size_drew] at z12 drz); have B12 : Below w.heap.size w w12 := Below.trans (b := _) (by repeat (with_reducible (first | assumption | exact Below.refl _ _ | refine Below.alloc ?_ (by first | omega | (simp; done) | (simp; omega)) _ | refine Below.setCell ?_ (by first | omega | (simp; done) | (simp; omega)) _ | refine Below.drew ?_ | refine below_drewN ?_ _))) (c12.below (by omega) (by first | omega | (simp [size_drew]; done) | (simp [size_drew]; omega))); clear rz; have rz := rz_; clear rz_; have rt_ := (rt.alloc _).away c12 (by omega); clear rt; have rt := rt_; clear rt_; have xc_ : Box w12 (w.heap.size) #[.slice (some ⟨g, o, none⟩) cn0 cc0, (.slice cA1 cn1 cc1)] 27 := (xc.alloc _).chg c12 (by omega); clear xc; have xc := xc_; clear xc_; have xt_ : Box w12 (w.heap.size + 1) #[.int .i64 tI0, .int .i64 tI1] 29 := (xt.alloc _).chg c12 (by omega); clear xt; have xt := xt_; clear xt_; have xr_ : Box w12 (w.heap.size + 1 + 1) #[.int .i64 0, .slice none 0 0, .slice none 0 0] 33 := (xr.alloc _).chg c12 (by omega); clear xr; have xr := xr_; clear xr_; have xq_ : Box w12 (w2.heap.size) #[.int .i64 d, .slice (some ⟨v1, v2, none⟩) zn zc, .slice tA tn tc] 33 := (xq.alloc _).chg c12 (by omega); clear xq; have xq := xq_; clear xq_; have xg_ : Box w12 (w9.heap.size) #[.int .i64 3, .int .i64 (m : Int), .int .i64 (j : Int)] 74 := (xg.alloc _).chg c12 (by omega); clear xg; have xg := xg_; clear xg_; obtain ⟨kxq_0, kxq_1, kxq_2, gxq_0, gxq_1, gxq_2⟩ := xq.three; have yxq := xq.lt))
      rw [← hZ2.out] at rz
      rw [← hT2.out] at rt
      go_wp2
      go_roundw
      case rel => exact ⟨k + 1, _, _, _, _, _, _, _, _, _, _, by omega, by go_num, (rz.setBox (by omega)), (rt.setBox (by omega)), by omega, by omega, by omega, (xc.far (by omega)), (xt.far (by omega)), (xr.far (by omega)), (xq.setAt (i := 1) (v := .slice yA yn yc) (ds := #[.int .i64 d, .slice yA yn yc, .slice tA tn tc]) (by simp)), by repeat (with_reducible (first | assumption | exact Below.refl _ _ | refine Below.alloc ?_ (by first | omega | (simp; done) | (simp; omega)) _ | refine Below.setCell ?_ (by first | omega | (simp; done) | (simp; omega)) _ | refine Below.drew ?_ | refine below_drewN ?_ _))⟩
      case measure => simp [intOf]; omega
     ·rw [hgt] at d0 d1 d2
      dsimp only at d0 d1 d2
      have hG := Lib.hid hgt
      clear hgt
      have e0 : w9.cell? ⟨g, o + k * 3, none⟩ = some (.int .i64 4) := (cellB hg d0)
      have e0_l : g < w9.heap.size := by omega
      have e1 : w9.cell? ⟨g, o + k * 3 + 1, none⟩ = some (.int .i64 (m : Int)) := (cellB hg d1)
      have e1_l : g < w9.heap.size := by omega
      have e2 : w9.cell? ⟨g, o + k * 3 + 2, none⟩ = some (.int .i64 (j : Int)) := (cellB hg d2)
      have e2_l : g < w9.heap.size := by omega
      obtain ⟨v1, v2, rfl⟩ := rz.some (by rw [hgl.out]; omega)
      have hom := OwnL.cellAt rz m (by rw [hgl.out]; exact hmb)
      have hoj := OwnL.cellAt rz j (by rw [hgl.out]; exact hjb)
      have v1l : v1 < w9.heap.size := World.block_lt_of_cell? _ _ hom
      have hzbm : m < zn := by omega
      have hzbj : j < zn := by omega
      obtain ⟨a, hae⟩ : ∃ a, Hid (nth (gZs tI0 tI1 d cL0 k) m = a) := ⟨_, rfl⟩
      obtain ⟨b, hbe⟩ : ∃ b, Hid (nth (gZs tI0 tI1 d cL0 k) j = b) := ⟨_, rfl⟩
      rw [hae.out] at hom
      rw [hbe.out] at hoj
      have iz := gZs_lab HK.out hT.out ld.out k (by rw [cL0l.out]; omega)
      have la : Hid (lab a = true) := by show _ = _; rw [← hae.out]; exact all_nth iz (by rw [hgl.out]; exact hmb)
      have lb : Hid (lab b = true) := by show _ = _; rw [← hbe.out]; exact all_nth iz (by rw [hgl.out]; exact hjb)
      clear iz
      have hw1 : IntKind.i64.wrap (2 * (k : Int)) = 2 * (k : Int) := by (rw [IntKind.wrap_i64]; (first | omega | (unfold wrap64; omega)))
      have hw2 : IntKind.i64.wrap (2 * (k : Int) + 1) = 2 * (k : Int) + 1 := by (rw [IntKind.wrap_i64]; (first | omega | (unfold wrap64; omega)))
      obtain ⟨cxc_0, cxc_1, fxc_0, fxc_1⟩ := xc.two
      have l_xc_0 : w.heap.size < w9.heap.size := by omega
      have l_xc_1 : w.heap.size < w9.heap.size + 1 := by omega
      obtain ⟨cxq_0, cxq_1, cxq_2, fxq_0, fxq_1, fxq_2⟩ := xq.three
      have l_xq_0 : w2.heap.size < w9.heap.size := by omega
      have l_xq_1 : w2.heap.size < w9.heap.size + 1 := by omega
      have hT2 := Lib.hid (show gTs tI0 tI1 d cL0 (k + 1) = gTs tI0 tI1 d cL0 k ++ [tabG d a b (k : Int), tabE d a b (k : Int)] by rw [gTs, hG.out, if_pos rfl, ← hae.out, ← hbe.out]; rfl)
      have tk1 : True := trivial
      have tk2 : True := trivial
      have hZ2 := Lib.hid (show gZs tI0 tI1 d cL0 (k + 1) = gZs tI0 tI1 d cL0 k ++ [andZ d a b (k : Int)] by rw [gZs, zNew, hG.out, ← hae.out, ← hbe.out]; rfl)
      go_wp2_with (first | (go_at_call 98; refine (sHashLabel_any _ _ _).mono ?_; rintro e w_ ⟨rfl, rfl⟩) | (go_at_call 99; refine (l18If_any _ _ _).mono ?_; rintro e w_ ⟨rfl, rfl⟩) | (at_builtin; have _t := tk1; clear tk1; go_must (refine append_D rfl _ _ rfl rfl ((rt.alloc _).alloc _) rfl (Ints.new (g := w9.heap.size + 1) _ [tabG d a b (k : Int), tabE d a b (k : Int)] 3 (by simp) rfl) (by have := htl2.out; omega) ?_); intro qA qn qc qlo qhi w10 rt_ drt c10; have z10 := c10.size; (try simp only [World.size_alloc, World.size_setCell, size_drew] at z10 drt); have B10 : Below w.heap.size w w10 := Below.trans (b := _) (by repeat (with_reducible (first | assumption | exact Below.refl _ _ | refine Below.alloc ?_ (by first | omega | (simp; done) | (simp; omega)) _ | refine Below.setCell ?_ (by first | omega | (simp; done) | (simp; omega)) _ | refine Below.drew ?_ | refine below_drewN ?_ _))) (c10.below (by omega) (by first | omega | (simp [size_drew]; done) | (simp [size_drew]; omega))); clear rt; have rt := rt_; clear rt_; have rz_ := ((rz.alloc _).alloc _).away c10 (by omega); clear rz; have rz := rz_; clear rz_; have xc_ : Box w10 (w.heap.size) #[.slice (some ⟨g, o, none⟩) cn0 cc0, (.slice cA1 cn1 cc1)] 27 := ((xc.alloc _).alloc _).chg c10 (by omega); clear xc; have xc := xc_; clear xc_; have xt_ : Box w10 (w.heap.size + 1) #[.int .i64 tI0, .int .i64 tI1] 29 := ((xt.alloc _).alloc _).chg c10 (by omega); clear xt; have xt := xt_; clear xt_; have xr_ : Box w10 (w.heap.size + 1 + 1) #[.int .i64 0, .slice none 0 0, .slice none 0 0] 33 := ((xr.alloc _).alloc _).chg c10 (by omega); clear xr; have xr := xr_; clear xr_; have xq_ : Box w10 (w2.heap.size) #[.int .i64 d, .slice (some ⟨v1, v2, none⟩) zn zc, .slice tA tn tc] 33 := ((xq.alloc _).alloc _).chg c10 (by omega); clear xq; have xq := xq_; clear xq_; have xg_ : Box w10 (w9.heap.size) #[.int .i64 4, .int .i64 (m : Int), .int .i64 (j : Int)] 74 := ((Box.new (g := w9.heap.size) _ #[.int .i64 4, .int .i64 (m : Int), .int .i64 (j : Int)] 74 (by simp)).alloc _).chg c10 (by omega); have xg := xg_; clear xg_; obtain ⟨kxq_0, kxq_1, kxq_2, gxq_0, gxq_1, gxq_2⟩ := xq.three; have yxq := xq.lt; obtain ⟨kxc_0, kxc_1, gxc_0, gxc_1⟩ := xc.two; have yxc := xc.lt) | (at_builtin; have _t := tk2; clear tk2; go_must (refine append_D rfl _ _ rfl rfl ((rz.setBox (by omega)).alloc _) rfl (Ints.new (g := w10.heap.size) _ [andZ d a b (k : Int)] 3 (by simp) rfl) (by have := hgl.out; omega) ?_); intro yA yn yc ylo yhi w11 rz_ drz c11; have z11 := c11.size; (try simp only [World.size_alloc, World.size_setCell, size_drew] at z11 drz); have B11 : Below w.heap.size w w11 := Below.trans (b := _) (by repeat (with_reducible (first | assumption | exact Below.refl _ _ | refine Below.alloc ?_ (by first | omega | (simp; done) | (simp; omega)) _ | refine Below.setCell ?_ (by first | omega | (simp; done) | (simp; omega)) _ | refine Below.drew ?_ | refine below_drewN ?_ _))) (c11.below (by omega) (by first | omega | (simp [size_drew]; done) | (simp [size_drew]; omega))); clear rz; have rz := rz_; clear rz_; have rt_ := ((rt.setBox (by omega)).alloc _).away c11 (by omega); clear rt; have rt := rt_; clear rt_; have xc_ : Box w11 (w.heap.size) #[.slice (some ⟨g, o, none⟩) cn0 cc0, (.slice cA1 cn1 cc1)] 27 := ((xc.far (by omega)).alloc _).chg c11 (by omega); clear xc; have xc := xc_; clear xc_; have xt_ : Box w11 (w.heap.size + 1) #[.int .i64 tI0, .int .i64 tI1] 29 := ((xt.far (by omega)).alloc _).chg c11 (by omega); clear xt; have xt := xt_; clear xt_; have xr_ : Box w11 (w.heap.size + 1 + 1) #[.int .i64 0, .slice none 0 0, .slice none 0 0] 33 := ((xr.far (by omega)).alloc _).chg c11 (by omega); clear xr; have xr := xr_; clear xr_; have xq_ : Box w11 (w2.heap.size) #[.int .i64 d, .slice (some ⟨v1, v2, none⟩) zn zc, .slice qA qn qc] 33 := ((xq.setAt (i := 2) (v := .slice qA qn qc) (ds := #[.int .i64 d, .slice (some ⟨v1, v2, none⟩) zn zc, .slice qA qn qc]) (by simp)).alloc _).chg c11 (by omega); clear xq; have xq := xq_; clear xq_; have xg_ : Box w11 (w9.heap.size) #[.int .i64 4, .int .i64 (m : Int), .int .i64 (j : Int)] 74 := ((xg.far (by omega)).alloc _).chg c11 (by omega); clear xg; have xg := xg_; clear xg_; obtain ⟨kxq_0, kxq_1, kxq_2, gxq_0, gxq_1, gxq_2⟩ := xq.three; have yxq := xq.lt; obtain ⟨kxc_0, kxc_1, gxc_0, gxc_1⟩ := xc.two; have yxc := xc.lt))
      rw [← hT2.out] at rt
      rw [← hZ2.out] at rz
      go_wp2
      go_roundw
      case rel => exact ⟨k + 1, _, _, _, _, _, _, _, _, _, _, by omega, by go_num, (rz.setBox (by omega)), (rt.setBox (by omega)), by omega, by omega, by omega, (xc.far (by omega)), (xt.far (by omega)), (xr.far (by omega)), (xq.setAt (i := 1) (v := .slice yA yn yc) (ds := #[.int .i64 d, .slice yA yn yc, .slice qA qn qc]) (by simp)), by repeat (with_reducible (first | assumption | exact Below.refl _ _ | refine Below.alloc ?_ (by first | omega | (simp; done) | (simp; omega)) _ | refine Below.setCell ?_ (by first | omega | (simp; done) | (simp; omega)) _ | refine Below.drew ?_ | refine below_drewN ?_ _))⟩
      case measure => simp [intOf]; omega
     ·rw [hgt] at d0 d1 d2
      dsimp only at d0 d1 d2
      have hG := Lib.hid hgt
      clear hgt
      have e0 : w9.cell? ⟨g, o + k * 3, none⟩ = some (.int .i64 5) := (cellB hg d0)
      have e0_l : g < w9.heap.size := by omega
      have e1 : w9.cell? ⟨g, o + k * 3 + 1, none⟩ = some (.int .i64 (m : Int)) := (cellB hg d1)
      have e1_l : g < w9.heap.size := by omega
      have e2 : w9.cell? ⟨g, o + k * 3 + 2, none⟩ = some (.int .i64 0) := (cellB hg d2)
      have e2_l : g < w9.heap.size := by omega
      obtain ⟨v1, v2, rfl⟩ := rz.some (by rw [hgl.out]; omega)
      have hom := OwnL.cellAt rz m (by rw [hgl.out]; exact hmb)
      have v1l : v1 < w9.heap.size := World.block_lt_of_cell? _ _ hom
      have hzbm : m < zn := by omega
      have hT2 := Lib.hid (show gTs tI0 tI1 d cL0 (k + 1) = gTs tI0 tI1 d cL0 k by rw [gTs, hG.out, if_neg (by show ¬ (5 : Int) = 4; decide), List.append_nil])
      have hZ2 := Lib.hid (show gZs tI0 tI1 d cL0 (k + 1) = gZs tI0 tI1 d cL0 k ++ [xo (nth (gZs tI0 tI1 d cL0 k) m) d] by rw [gZs, zNew, hG.out]; rfl)
      obtain ⟨cxq_0, cxq_1, cxq_2, fxq_0, fxq_1, fxq_2⟩ := xq.three
      have l_xq_0 : w2.heap.size < w9.heap.size := by omega
      have l_xq_1 : w2.heap.size < w9.heap.size + 1 := by omega
      obtain ⟨cxc_0, cxc_1, fxc_0, fxc_1⟩ := xc.two
      have l_xc_0 : w.heap.size < w9.heap.size := by omega
      have l_xc_1 : w.heap.size < w9.heap.size + 1 := by omega
      go_wp2_with ((at_builtin; go_must (refine append_D rfl _ _ rfl rfl ((rz.alloc _).alloc _) rfl (Ints.new (g := w9.heap.size + 1) _ [xo (nth (gZs tI0 tI1 d cL0 k) m) d] 3 (by simp) rfl) (by have := hgl.out; omega) ?_); intro yA yn yc ylo yhi w10 rz_ drz c10; have z10 := c10.size; (try simp only [World.size_alloc, World.size_setCell, size_drew] at z10 drz); have B10 : Below w.heap.size w w10 := Below.trans (b := _) (by repeat (with_reducible (first | assumption | exact Below.refl _ _ | refine Below.alloc ?_ (by first | omega | (simp; done) | (simp; omega)) _ | refine Below.setCell ?_ (by first | omega | (simp; done) | (simp; omega)) _ | refine Below.drew ?_ | refine below_drewN ?_ _))) (c10.below (by omega) (by first | omega | (simp [size_drew]; done) | (simp [size_drew]; omega))); clear rz; have rz := rz_; clear rz_; have rt_ := ((rt.alloc _).alloc _).away c10 (by omega); clear rt; have rt := rt_; clear rt_; have xc_ : Box w10 (w.heap.size) #[.slice (some ⟨g, o, none⟩) cn0 cc0, (.slice cA1 cn1 cc1)] 27 := ((xc.alloc _).alloc _).chg c10 (by omega); clear xc; have xc := xc_; clear xc_; have xt_ : Box w10 (w.heap.size + 1) #[.int .i64 tI0, .int .i64 tI1] 29 := ((xt.alloc _).alloc _).chg c10 (by omega); clear xt; have xt := xt_; clear xt_; have xr_ : Box w10 (w.heap.size + 1 + 1) #[.int .i64 0, .slice none 0 0, .slice none 0 0] 33 := ((xr.alloc _).alloc _).chg c10 (by omega); clear xr; have xr := xr_; clear xr_; have xq_ : Box w10 (w2.heap.size) #[.int .i64 d, .slice (some ⟨v1, v2, none⟩) zn zc, .slice tA tn tc] 33 := ((xq.alloc _).alloc _).chg c10 (by omega); clear xq; have xq := xq_; clear xq_; have xg_ : Box w10 (w9.heap.size) #[.int .i64 5, .int .i64 (m : Int), .int .i64 0] 74 := ((Box.new (g := w9.heap.size) _ #[.int .i64 5, .int .i64 (m : Int), .int .i64 0] 74 (by simp)).alloc _).chg c10 (by omega); have xg := xg_; clear xg_; obtain ⟨kxq_0, kxq_1, kxq_2, gxq_0, gxq_1, gxq_2⟩ := xq.three; have yxq := xq.lt))
      rw [← hZ2.out] at rz
      rw [← hT2.out] at rt
      go_wp2
      go_roundw
      case rel => exact ⟨k + 1, _, _, _, _, _, _, _, _, _, _, by omega, by go_num, (rz.setBox (by omega)), (rt.setBox (by omega)), by omega, by omega, by omega, (xc.far (by omega)), (xt.far (by omega)), (xr.far (by omega)), (xq.setAt (i := 1) (v := .slice yA yn yc) (ds := #[.int .i64 d, .slice yA yn yc, .slice tA tn tc]) (by simp)), by repeat (with_reducible (first | assumption | exact Below.refl _ _ | refine Below.alloc ?_ (by first | omega | (simp; done) | (simp; omega)) _ | refine Below.setCell ?_ (by first | omega | (simp; done) | (simp; omega)) _ | refine Below.drew ?_ | refine below_drewN ?_ _))⟩
      case measure => simp [intOf]; omega
    ·have hkn : k = cn0 := by omega
     obtain ⟨cxc_0, cxc_1, fxc_0, fxc_1⟩ := xc.two
     have l_xc_0 : w.heap.size < w9.heap.size := by omega
     obtain ⟨cxq_0, cxq_1, cxq_2, fxq_0, fxq_1, fxq_2⟩ := xq.three
     have l_xq_0 : w2.heap.size < w9.heap.size := by omega
     obtain ⟨cxr_0, cxr_1, cxr_2, fxr_0, fxr_1, fxr_2⟩ := xr.three
     have l_xr_0 : w.heap.size + 1 + 1 < w9.heap.size := by omega
     go_wp2
     refine bodyPost_ret (v := .tuple #[.agg #[.int .i64 d, .slice zA zn zc, .slice tA tn tc], .bool true]) (by simp [results, Try.results56, go_sem, cxc_0, cxc_1, fxc_0, fxc_1, l_xc_0, cxq_0, cxq_1, cxq_2, fxq_0, fxq_1, fxq_2, l_xq_0, cxr_0, cxr_1, cxr_2, fxr_0, fxr_1, fxr_2, l_xr_0]) rfl ⟨zA, zn, zc, tA, tn, tc, by rw [garD_yes HO2.out, HO2.out, hde.out], ?_, ?_⟩
     ·have R := OwnL.two (B := w.heap.size + 1 + 1 + 1) rz rt hdj (by omega) (by omega)
      simp only [List.cons_append, List.nil_append] at R
      rw [garZ_yes HO2.out, garT_yes HO2.out, hde.out, cL0l.out, ← hkn]
      exact OwnL.mono (((R.setBox (by omega)).setBox (by omega)).setBox (by omega)) (by omega) (by first | omega | (simp [size_drew]; done) | (simp [size_drew]; omega)) (Nat.le_refl _)
     ·repeat (with_reducible (first | assumption | exact Below.refl _ _ | refine Below.alloc ?_ (by first | omega | (simp; done) | (simp; omega)) _ | refine Below.setCell ?_ (by first | omega | (simp; done) | (simp; omega)) _ | refine Below.drew ?_ | refine below_drewN ?_ _))
set_option maxRecDepth 100000 in
set_option maxHeartbeats 10000000 in
theorem iGarble_L {cA0 : Option Addr} {cn0 cc0 : Nat} {cL0 : List (Int × Int × Int)} {cA1 : Option Addr} {cn1 cc1 : Nat} {cL1 : List Int} {w : World} (cH : RdL w [((.slice cA0 cn0 cc0), .gates cL0), ((.slice cA1 cn1 cc1), .ints cL1)]) (cL0n : cL0.length ≤ 1048576) (cL1n : cL1.length ≤ 1048576) (tI0 : Int) (tI1 : Int) :
  Calls Try.prog 24 #[.agg #[(.slice cA0 cn0 cc0), (.slice cA1 cn1 cc1)], .agg #[.int .i64 tI0, .int .i64 tI1]] w fun e w' => ∃ rA1 rn1 rc1 rA2 rn2 rc2, e = .returned (.tuple #[.agg #[.int .i64 (garD cL0 cL1 tI0 tI1), .slice rA1 rn1 rc1, .slice rA2 rn2 rc2], .bool (garbOk cL0 cL1 tI0 tI1)]) ∧ OwnL w' w.heap.size w'.heap.size [(.slice rA1 rn1 rc1, .ints (garZ cL0 cL1 tI0 tI1)), (.slice rA2 rn2 rc2, .ints (garT cL0 cL1 tI0 tI1))] ∧ Below w.heap.size w w' := by
 have cL0g : Gates w cA0 cn0 cL0 := RdG.toG (cH ((.slice cA0 cn0 cc0), .gates cL0) (by simp))
 have cL0l := Lib.hid cL0g.1
 have cL0m : cn0 ≤ 1048576 := by rw [← cL0l.out]; exact cL0n
 have cL1i : Ints w cA1 cn1 cL1 := Rd.toInts (cH ((.slice cA1 cn1 cc1), .ints cL1) (by simp))
 have cL1l := Lib.hid cL1i.len
 have cL1m : cn1 ≤ 1048576 := by rw [← cL1l.out]; exact cL1n
 cases k1 : circOk cL0 cL1 with
 | false =>
  have HO2 : Hid (garbOk cL0 cL1 tI0 tI1 = false) := by show _ = _; rw [garbOk, k1]; rfl
  go_enter Try.func24, Try.ntmps24
  go_wp2_with fail
  refine (iCircuitOk_L (RdL.b cH) cL0n cL1n).mono ?_
  rintro e w1 ⟨rfl, b1⟩
  have z1 := b1.size
  try simp only [World.size_alloc, World.size_setCell, size_drew] at z1
  have B1 : Below w.heap.size w w1 := Below.t b1
  have xc_ : Box w1 (w.heap.size) #[(.slice cA0 cn0 cc0), (.slice cA1 cn1 cc1)] 27 := (((Box.new (g := w.heap.size) _ #[(.slice cA0 cn0 cc0), (.slice cA1 cn1 cc1)] 27 (by simp)).alloc _).alloc _).below b1 (by first | omega | (simp [size_drew]; done) | (simp [size_drew]; omega))
  have xc := xc_; clear xc_
  have xt_ : Box w1 (w.heap.size + 1) #[.int .i64 tI0, .int .i64 tI1] 29 := ((Box.new (g := w.heap.size + 1) _ #[.int .i64 tI0, .int .i64 tI1] 29 (by simp)).alloc _).below b1 (by first | omega | (simp [size_drew]; done) | (simp [size_drew]; omega))
  have xt := xt_; clear xt_
  have xr_ : Box w1 (w.heap.size + 1 + 1) #[.int .i64 0, .slice none 0 0, .slice none 0 0] 33 := (Box.new (g := w.heap.size + 1 + 1) _ #[.int .i64 0, .slice none 0 0, .slice none 0 0] 33 (by simp)).below b1 (by first | omega | (simp [size_drew]; done) | (simp [size_drew]; omega))
  have xr := xr_; clear xr_
  rw [k1]
  obtain ⟨cxc_0, cxc_1, fxc_0, fxc_1⟩ := xc.two
  have l_xc_0 : w.heap.size < w1.heap.size := by omega
  obtain ⟨cxt_0, cxt_1, fxt_0, fxt_1⟩ := xt.two
  have l_xt_0 : w.heap.size + 1 < w1.heap.size := by omega
  obtain ⟨cxr_0, cxr_1, cxr_2, fxr_0, fxr_1, fxr_2⟩ := xr.three
  have l_xr_0 : w.heap.size + 1 + 1 < w1.heap.size := by omega
  go_wp2
  refine bodyPost_ret (v := .tuple #[.agg #[.int .i64 0, .slice none 0 0, .slice none 0 0], .bool false]) (by simp [results, Try.results24, go_sem, cxc_0, cxc_1, fxc_0, fxc_1, l_xc_0, cxt_0, cxt_1, fxt_0, fxt_1, l_xt_0, cxr_0, cxr_1, cxr_2, fxr_0, fxr_1, fxr_2, l_xr_0]) rfl ⟨none, 0, 0, none, 0, 0, by rw [garD_no HO2.out, HO2.out], ?_, ?_⟩
  ·rw [garZ_no HO2.out, garT_no HO2.out]; exact OwnL.nones _ (by simp) (by first | omega | (simp [size_drew]; done) | (simp [size_drew]; omega))
  ·repeat (with_reducible (first | assumption | exact Below.refl _ _ | refine Below.alloc ?_ (by first | omega | (simp; done) | (simp; omega)) _ | refine Below.setCell ?_ (by first | omega | (simp; done) | (simp; omega)) _ | refine Below.drew ?_ | refine below_drewN ?_ _))
 | true =>
  cases k2 : tapeOk tI0 tI1 with
  | false =>
   have HO2 : Hid (garbOk cL0 cL1 tI0 tI1 = false) := by show _ = _; rw [garbOk, k1, dlOk, k2]; rfl
   go_enter Try.func24, Try.ntmps24
   go_wp2_with fail
   refine (iCircuitOk_L (RdL.b cH) cL0n cL1n).mono ?_
   rintro e w1 ⟨rfl, b1⟩
   have z1 := b1.size
   try simp only [World.size_alloc, World.size_setCell, size_drew] at z1
   have B1 : Below w.heap.size w w1 := Below.t b1
   have xc_ : Box w1 (w.heap.size) #[(.slice cA0 cn0 cc0), (.slice cA1 cn1 cc1)] 27 := (((Box.new (g := w.heap.size) _ #[(.slice cA0 cn0 cc0), (.slice cA1 cn1 cc1)] 27 (by simp)).alloc _).alloc _).below b1 (by first | omega | (simp [size_drew]; done) | (simp [size_drew]; omega))
   have xc := xc_; clear xc_
   have xt_ : Box w1 (w.heap.size + 1) #[.int .i64 tI0, .int .i64 tI1] 29 := ((Box.new (g := w.heap.size + 1) _ #[.int .i64 tI0, .int .i64 tI1] 29 (by simp)).alloc _).below b1 (by first | omega | (simp [size_drew]; done) | (simp [size_drew]; omega))
   have xt := xt_; clear xt_
   have xr_ : Box w1 (w.heap.size + 1 + 1) #[.int .i64 0, .slice none 0 0, .slice none 0 0] 33 := (Box.new (g := w.heap.size + 1 + 1) _ #[.int .i64 0, .slice none 0 0, .slice none 0 0] 33 (by simp)).below b1 (by first | omega | (simp [size_drew]; done) | (simp [size_drew]; omega))
   have xr := xr_; clear xr_
   rw [k1]
   obtain ⟨cxc_0, cxc_1, fxc_0, fxc_1⟩ := xc.two
   have l_xc_0 : w.heap.size < w1.heap.size := by omega
   obtain ⟨cxt_0, cxt_1, fxt_0, fxt_1⟩ := xt.two
   have l_xt_0 : w.heap.size + 1 < w1.heap.size := by omega
   go_wp2_with fail
   refine (iTapeOk_any tI0 tI1 _).mono ?_
   rintro e w2 ⟨rfl, b2⟩
   clear cxc_0 cxc_1 fxc_0 fxc_1 l_xc_0 cxt_0 cxt_1 fxt_0 fxt_1 l_xt_0
   have z2 := b2.size
   try simp only [World.size_alloc, World.size_setCell, size_drew] at z2
   have B2 : Below w.heap.size w w2 := Below.t b2
   have xc_ : Box w2 (w.heap.size) #[(.slice cA0 cn0 cc0), (.slice cA1 cn1 cc1)] 27 := xc.below b2 (by first | omega | (simp [size_drew]; done) | (simp [size_drew]; omega))
   clear xc; have xc := xc_; clear xc_
   have xt_ : Box w2 (w.heap.size + 1) #[.int .i64 tI0, .int .i64 tI1] 29 := xt.below b2 (by first | omega | (simp [size_drew]; done) | (simp [size_drew]; omega))
   clear xt; have xt := xt_; clear xt_
   have xr_ : Box w2 (w.heap.size + 1 + 1) #[.int .i64 0, .slice none 0 0, .slice none 0 0] 33 := xr.below b2 (by first | omega | (simp [size_drew]; done) | (simp [size_drew]; omega))
   clear xr; have xr := xr_; clear xr_
   obtain ⟨cxt_0, cxt_1, fxt_0, fxt_1⟩ := xt.two
   have l_xt_0 : w.heap.size + 1 < w2.heap.size := by omega
   obtain ⟨cxr_0, cxr_1, cxr_2, fxr_0, fxr_1, fxr_2⟩ := xr.three
   have l_xr_0 : w.heap.size + 1 + 1 < w2.heap.size := by omega
   go_wp2
   refine bodyPost_ret (v := .tuple #[.agg #[.int .i64 0, .slice none 0 0, .slice none 0 0], .bool false]) (by simp [results, Try.results24, go_sem, cxt_0, cxt_1, fxt_0, fxt_1, l_xt_0, cxr_0, cxr_1, cxr_2, fxr_0, fxr_1, fxr_2, l_xr_0]) rfl ⟨none, 0, 0, none, 0, 0, by rw [garD_no HO2.out, HO2.out], ?_, ?_⟩
   ·rw [garZ_no HO2.out, garT_no HO2.out]; exact OwnL.nones _ (by simp) (by first | omega | (simp [size_drew]; done) | (simp [size_drew]; omega))
   ·repeat (with_reducible (first | assumption | exact Below.refl _ _ | refine Below.alloc ?_ (by first | omega | (simp; done) | (simp; omega)) _ | refine Below.setCell ?_ (by first | omega | (simp; done) | (simp; omega)) _ | refine Below.drew ?_ | refine below_drewN ?_ _))
  | true =>
   cases k3 : decide (tI1 ≤ 900000) with
   | false =>
    have q3 : ((900000 : Int) < tI1) := by simp at k3; omega
    have HO2 : Hid (garbOk cL0 cL1 tI0 tI1 = false) := by show _ = _; rw [garbOk, k1, dlOk, k2, k3]; rfl
    go_enter Try.func24, Try.ntmps24
    go_wp2_with fail
    refine (iCircuitOk_L (RdL.b cH) cL0n cL1n).mono ?_
    rintro e w1 ⟨rfl, b1⟩
    have z1 := b1.size
    try simp only [World.size_alloc, World.size_setCell, size_drew] at z1
    have B1 : Below w.heap.size w w1 := Below.t b1
    have xc_ : Box w1 (w.heap.size) #[(.slice cA0 cn0 cc0), (.slice cA1 cn1 cc1)] 27 := (((Box.new (g := w.heap.size) _ #[(.slice cA0 cn0 cc0), (.slice cA1 cn1 cc1)] 27 (by simp)).alloc _).alloc _).below b1 (by first | omega | (simp [size_drew]; done) | (simp [size_drew]; omega))
    have xc := xc_; clear xc_
    have xt_ : Box w1 (w.heap.size + 1) #[.int .i64 tI0, .int .i64 tI1] 29 := ((Box.new (g := w.heap.size + 1) _ #[.int .i64 tI0, .int .i64 tI1] 29 (by simp)).alloc _).below b1 (by first | omega | (simp [size_drew]; done) | (simp [size_drew]; omega))
    have xt := xt_; clear xt_
    have xr_ : Box w1 (w.heap.size + 1 + 1) #[.int .i64 0, .slice none 0 0, .slice none 0 0] 33 := (Box.new (g := w.heap.size + 1 + 1) _ #[.int .i64 0, .slice none 0 0, .slice none 0 0] 33 (by simp)).below b1 (by first | omega | (simp [size_drew]; done) | (simp [size_drew]; omega))
    have xr := xr_; clear xr_
    rw [k1]
    obtain ⟨cxc_0, cxc_1, fxc_0, fxc_1⟩ := xc.two
    have l_xc_0 : w.heap.size < w1.heap.size := by omega
    obtain ⟨cxt_0, cxt_1, fxt_0, fxt_1⟩ := xt.two
    have l_xt_0 : w.heap.size + 1 < w1.heap.size := by omega
    go_wp2_with fail
    refine (iTapeOk_any tI0 tI1 _).mono ?_
    rintro e w2 ⟨rfl, b2⟩
    clear cxc_0 cxc_1 fxc_0 fxc_1 l_xc_0 cxt_0 cxt_1 fxt_0 fxt_1 l_xt_0
    have z2 := b2.size
    try simp only [World.size_alloc, World.size_setCell, size_drew] at z2
    have B2 : Below w.heap.size w w2 := Below.t b2
    have xc_ : Box w2 (w.heap.size) #[(.slice cA0 cn0 cc0), (.slice cA1 cn1 cc1)] 27 := xc.below b2 (by first | omega | (simp [size_drew]; done) | (simp [size_drew]; omega))
    clear xc; have xc := xc_; clear xc_
    have xt_ : Box w2 (w.heap.size + 1) #[.int .i64 tI0, .int .i64 tI1] 29 := xt.below b2 (by first | omega | (simp [size_drew]; done) | (simp [size_drew]; omega))
    clear xt; have xt := xt_; clear xt_
    have xr_ : Box w2 (w.heap.size + 1 + 1) #[.int .i64 0, .slice none 0 0, .slice none 0 0] 33 := xr.below b2 (by first | omega | (simp [size_drew]; done) | (simp [size_drew]; omega))
    clear xr; have xr := xr_; clear xr_
    obtain ⟨cxt_0, cxt_1, fxt_0, fxt_1⟩ := xt.two
    have l_xt_0 : w.heap.size + 1 < w2.heap.size := by omega
    obtain ⟨cxr_0, cxr_1, cxr_2, fxr_0, fxr_1, fxr_2⟩ := xr.three
    have l_xr_0 : w.heap.size + 1 + 1 < w2.heap.size := by omega
    go_wp2
    refine bodyPost_ret (v := .tuple #[.agg #[.int .i64 0, .slice none 0 0, .slice none 0 0], .bool false]) (by simp [results, Try.results24, go_sem, cxt_0, cxt_1, fxt_0, fxt_1, l_xt_0, cxr_0, cxr_1, cxr_2, fxr_0, fxr_1, fxr_2, l_xr_0]) rfl ⟨none, 0, 0, none, 0, 0, by rw [garD_no HO2.out, HO2.out], ?_, ?_⟩
    ·rw [garZ_no HO2.out, garT_no HO2.out]; exact OwnL.nones _ (by simp) (by first | omega | (simp [size_drew]; done) | (simp [size_drew]; omega))
    ·repeat (with_reducible (first | assumption | exact Below.refl _ _ | refine Below.alloc ?_ (by first | omega | (simp; done) | (simp; omega)) _ | refine Below.setCell ?_ (by first | omega | (simp; done) | (simp; omega)) _ | refine Below.drew ?_ | refine below_drewN ?_ _))
   | true =>
    have q3 : ¬ ((900000 : Int) < tI1) := by simp at k3; omega
    have HO2 : Hid (garbOk cL0 cL1 tI0 tI1 = true) := by show _ = _; rw [garbOk, k1, dlOk, k2, k3]; rfl
    go_enter Try.func24, Try.ntmps24
    go_wp2_with fail
    refine (iCircuitOk_L (RdL.b cH) cL0n cL1n).mono ?_
    rintro e w1 ⟨rfl, b1⟩
    have z1 := b1.size
    try simp only [World.size_alloc, World.size_setCell, size_drew] at z1
    have B1 : Below w.heap.size w w1 := Below.t b1
    have xc_ : Box w1 (w.heap.size) #[(.slice cA0 cn0 cc0), (.slice cA1 cn1 cc1)] 27 := (((Box.new (g := w.heap.size) _ #[(.slice cA0 cn0 cc0), (.slice cA1 cn1 cc1)] 27 (by simp)).alloc _).alloc _).below b1 (by first | omega | (simp [size_drew]; done) | (simp [size_drew]; omega))
    have xc := xc_; clear xc_
    have xt_ : Box w1 (w.heap.size + 1) #[.int .i64 tI0, .int .i64 tI1] 29 := ((Box.new (g := w.heap.size + 1) _ #[.int .i64 tI0, .int .i64 tI1] 29 (by simp)).alloc _).below b1 (by first | omega | (simp [size_drew]; done) | (simp [size_drew]; omega))
    have xt := xt_; clear xt_
    have xr_ : Box w1 (w.heap.size + 1 + 1) #[.int .i64 0, .slice none 0 0, .slice none 0 0] 33 := (Box.new (g := w.heap.size + 1 + 1) _ #[.int .i64 0, .slice none 0 0, .slice none 0 0] 33 (by simp)).below b1 (by first | omega | (simp [size_drew]; done) | (simp [size_drew]; omega))
    have xr := xr_; clear xr_
    rw [k1]
    obtain ⟨cxc_0, cxc_1, fxc_0, fxc_1⟩ := xc.two
    have l_xc_0 : w.heap.size < w1.heap.size := by omega
    obtain ⟨cxt_0, cxt_1, fxt_0, fxt_1⟩ := xt.two
    have l_xt_0 : w.heap.size + 1 < w1.heap.size := by omega
    go_wp2_with fail
    refine (iTapeOk_any tI0 tI1 _).mono ?_
    rintro e w2 ⟨rfl, b2⟩
    clear cxc_0 cxc_1 fxc_0 fxc_1 l_xc_0 cxt_0 cxt_1 fxt_0 fxt_1 l_xt_0
    have z2 := b2.size
    try simp only [World.size_alloc, World.size_setCell, size_drew] at z2
    have B2 : Below w.heap.size w w2 := Below.t b2
    have xc_ : Box w2 (w.heap.size) #[(.slice cA0 cn0 cc0), (.slice cA1 cn1 cc1)] 27 := xc.below b2 (by first | omega | (simp [size_drew]; done) | (simp [size_drew]; omega))
    clear xc; have xc := xc_; clear xc_
    have xt_ : Box w2 (w.heap.size + 1) #[.int .i64 tI0, .int .i64 tI1] 29 := xt.below b2 (by first | omega | (simp [size_drew]; done) | (simp [size_drew]; omega))
    clear xt; have xt := xt_; clear xt_
    have xr_ : Box w2 (w.heap.size + 1 + 1) #[.int .i64 0, .slice none 0 0, .slice none 0 0] 33 := xr.below b2 (by first | omega | (simp [size_drew]; done) | (simp [size_drew]; omega))
    clear xr; have xr := xr_; clear xr_
    have hd := show dlOk tI0 tI1 = true by rw [dlOk, k2, k3]; rfl
    have hT := Lib.hid ((and_true_of hd).1)
    clear hd
    obtain ⟨d, hde⟩ : ∃ d, Hid (deltaOf tI0 tI1 = d) := ⟨_, rfl⟩
    have ld : Hid (lab d = true) := by rw [← hde.out]; exact deltaOf_lab _ _
    have HK := Lib.hid k1
    have HG := Lib.hid cL0g
    have hc6 : cn0 ≤ 6000 := by have := circ_len k1; have := cL0l.out; omega
    obtain ⟨cxt_0, cxt_1, fxt_0, fxt_1⟩ := xt.two
    have l_xt_0 : w.heap.size + 1 < w2.heap.size := by omega
    have l_xt_1 : w.heap.size + 1 < w2.heap.size + 1 := by omega
    go_wp2_with fail
    refine (iDeltaOf_L tI0 tI1).mono ?_
    rintro e w3 ⟨rfl, b3⟩
    clear cxt_0 cxt_1 fxt_0 fxt_1 l_xt_0 l_xt_1
    have z3 := b3.size
    try simp only [World.size_alloc, World.size_setCell, size_drew] at z3
    have B3 : Below w.heap.size w w3 := Below.t b3
    have xc_ : Box w3 (w.heap.size) #[(.slice cA0 cn0 cc0), (.slice cA1 cn1 cc1)] 27 := (xc.alloc _).below b3 (by first | omega | (simp [size_drew]; done) | (simp [size_drew]; omega))
    clear xc; have xc := xc_; clear xc_
    have xt_ : Box w3 (w.heap.size + 1) #[.int .i64 tI0, .int .i64 tI1] 29 := (xt.alloc _).below b3 (by first | omega | (simp [size_drew]; done) | (simp [size_drew]; omega))
    clear xt; have xt := xt_; clear xt_
    have xr_ : Box w3 (w.heap.size + 1 + 1) #[.int .i64 0, .slice none 0 0, .slice none 0 0] 33 := (xr.alloc _).below b3 (by first | omega | (simp [size_drew]; done) | (simp [size_drew]; omega))
    clear xr; have xr := xr_; clear xr_
    have xq_ : Box w3 (w2.heap.size) #[.int .i64 0, .slice none 0 0, .slice none 0 0] 33 := (Box.new (g := w2.heap.size) _ #[.int .i64 0, .slice none 0 0, .slice none 0 0] 33 (by simp)).below b3 (by first | omega | (simp [size_drew]; done) | (simp [size_drew]; omega))
    have xq := xq_; clear xq_
    rw [hde.out]
    obtain ⟨cxq_0, cxq_1, cxq_2, fxq_0, fxq_1, fxq_2⟩ := xq.three
    have l_xq_0 : w2.heap.size < w3.heap.size := by omega
    obtain ⟨cxc_0, cxc_1, fxc_0, fxc_1⟩ := xc.two
    have l_xc_0 : w.heap.size < w3.heap.size := by omega
    go_wp2_with fail
    clear cxq_0 cxq_1 cxq_2 fxq_0 fxq_1 fxq_2 l_xq_0 cxc_0 cxc_1 fxc_0 fxc_1 l_xc_0
    generalize hw4 : World.setCell _ _ _ = w4
    have z4 : w3.heap.size ≤ w4.heap.size := by rw [← hw4]; simp
    have B4 : Below w.heap.size w w4 := by rw [← hw4]; repeat (with_reducible (first | assumption | exact Below.refl _ _ | refine Below.alloc ?_ (by first | omega | (simp; done) | (simp; omega)) _ | refine Below.setCell ?_ (by first | omega | (simp; done) | (simp; omega)) _ | refine Below.drew ?_ | refine below_drewN ?_ _))
    have xc_ : Box w4 (w.heap.size) #[(.slice cA0 cn0 cc0), (.slice cA1 cn1 cc1)] 27 := (by rw [← hw4]; exact (xc.far (by omega)))
    clear xc; have xc := xc_; clear xc_
    have xt_ : Box w4 (w.heap.size + 1) #[.int .i64 tI0, .int .i64 tI1] 29 := (by rw [← hw4]; exact (xt.far (by omega)))
    clear xt; have xt := xt_; clear xt_
    have xr_ : Box w4 (w.heap.size + 1 + 1) #[.int .i64 0, .slice none 0 0, .slice none 0 0] 33 := (by rw [← hw4]; exact (xr.far (by omega)))
    clear xr; have xr := xr_; clear xr_
    have xq_ : Box w4 (w2.heap.size) #[.int .i64 d, .slice none 0 0, .slice none 0 0] 33 := (by rw [← hw4]; exact (xq.setAt (i := 0) (v := .int .i64 d) (ds := #[.int .i64 d, .slice none 0 0, .slice none 0 0]) (by simp)))
    clear xq; have xq := xq_; clear xq_
    clear hw4
    have zq := xq.lt
    have hgb : w.heap.size + 1 + 1 + 1 ≤ w2.heap.size := by omega
    go_loopw [38] (fun i wr => ∃ (k : Nat) (zA : Option Addr) (zn zc : Nat) (tA : Option Addr) (tn tc zl zh tl th : Nat), k ≤ cn0 ∧ i = .int .i64 k ∧ Hid (OwnL wr zl zh [(.slice zA zn zc, .ints (gZs tI0 tI1 d cL0 k))]) ∧ Hid (OwnL wr tl th [(.slice tA tn tc, .ints (gTs tI0 tI1 d cL0 k))]) ∧ (zh ≤ tl ∨ th ≤ zl) ∧ w2.heap.size < zl ∧ w2.heap.size < tl ∧ Hid (Box wr (w.heap.size) #[(.slice cA0 cn0 cc0), (.slice cA1 cn1 cc1)] 27) ∧ Hid (Box wr (w.heap.size + 1) #[.int .i64 tI0, .int .i64 tI1] 29) ∧ Hid (Box wr (w.heap.size + 1 + 1) #[.int .i64 0, .slice none 0 0, .slice none 0 0] 33) ∧ Hid (Box wr w2.heap.size #[.int .i64 d, .slice zA zn zc, .slice tA tn tc] 33) ∧ Below w.heap.size w wr) (fun i wr => cn0 - (intOf i).toNat)
    case atStart => exact ⟨0, none, 0, 0, none, 0, 0, _, _, _, _, by omega, rfl, OwnL.nones (lo := w4.heap.size) [(.slice none 0 0, .ints [])] (by simp) (Nat.le_refl _), OwnL.nones (lo := w4.heap.size) [(.slice none 0 0, .ints [])] (by simp) (Nat.le_refl _), .inl (Nat.le_refl _), by omega, by omega, xc, xt, xr, xq, B4⟩
    case round =>
     obtain ⟨k, zA, zn, zc, tA, tn, tc, zl, zh, tl, th, hk, rfl, rz, rt, hdj, hzl, htl, xc, xt, xr, xq, B9⟩ := hrel
     obtain ⟨w9, hw9⟩ : ∃ x, x = wr := ⟨wr, rfl⟩
     subst hw9
     have rz := rz.out
     have rt := rt.out
     have xc := xc.out
     have zb_xc := xc.lt
     have xt := xt.out
     have zb_xt := xt.lt
     have xr := xr.out
     have zb_xr := xr.lt
     have xq := xq.out
     have zb_xq := xq.lt
     have hgl := Lib.hid (gZs_len tI0 tI1 d cL0 k)
     have htl2 := Lib.hid (gTs_len tI0 tI1 d cL0 k)
     have z9 := B9.size
     have hc4 := cntG_le cL0 4 k
     have hkz : k ≤ zn := by have := rz.len; rw [hgl.out] at this; omega
     have hz1 := rz.1
     have hz2 := rz.2.1
     have ht1 := rt.1
     have ht2 := rt.2.1
     by_cases hlt : k < cn0
     ·obtain ⟨g, o, rfl, hg, d0, d1, d2⟩ := (HG.out).at hlt
      change _ = some (Value.int .i64 (gAt cL0 k).1) at d0
      change _ = some (Value.int .i64 (gAt cL0 k).2.1) at d1
      change _ = some (Value.int .i64 (gAt cL0 k).2.2) at d2
      rcases gate_cases HK.out (k := k) (by rw [cL0l.out]; exact hlt) with ⟨m, hgt, hmb⟩ | ⟨m, hgt, hmb⟩ | ⟨m, j, hgt, hmb, hjb⟩ | ⟨m, j, hgt, hmb, hjb⟩ | ⟨m, hgt, hmb⟩
      ·rw [hgt] at d0 d1 d2
       dsimp only at d0 d1 d2
       have hG := Lib.hid hgt
       clear hgt
       have e0 : w9.cell? ⟨g, o + k * 3, none⟩ = some (.int .i64 1) := (cellB hg d0)
       have e0_l : g < w9.heap.size := by omega
       have e1 : w9.cell? ⟨g, o + k * 3 + 1, none⟩ = some (.int .i64 (m : Int)) := (cellB hg d1)
       have e1_l : g < w9.heap.size := by omega
       have e2 : w9.cell? ⟨g, o + k * 3 + 2, none⟩ = some (.int .i64 0) := (cellB hg d2)
       have e2_l : g < w9.heap.size := by omega
       obtain ⟨cxc_0, cxc_1, fxc_0, fxc_1⟩ := xc.two
       have l_xc_0 : w.heap.size < w9.heap.size := by omega
       have l_xc_1 : w.heap.size < w9.heap.size + 1 := by omega
       obtain ⟨cxt_0, cxt_1, fxt_0, fxt_1⟩ := xt.two
       have l_xt_0 : w.heap.size + 1 < w9.heap.size := by omega
       have l_xt_1 : w.heap.size + 1 < w9.heap.size + 1 := by omega
       go_wp2_with fail
       refine (iInputZero_L tI0 tI1 (m : Int)).mono ?_
       rintro e w10 ⟨rfl, b10⟩
       clear cxc_0 cxc_1 fxc_0 fxc_1 l_xc_0 l_xc_1 cxt_0 cxt_1 fxt_0 fxt_1 l_xt_0 l_xt_1
       have z10 := b10.size
       try simp only [World.size_alloc, World.size_setCell, size_drew] at z10
       have B10 : Below w.heap.size w w10 := Below.t b10
       have rz_ := (rz.alloc _).below b10
       clear rz; have rz := rz_; clear rz_
       have rt_ := (rt.alloc _).below b10
       clear rt; have rt := rt_; clear rt_
       have xc_ : Box w10 (w.heap.size) #[.slice (some ⟨g, o, none⟩) cn0 cc0, (.slice cA1 cn1 cc1)] 27 := (xc.alloc _).below b10 (by first | omega | (simp [size_drew]; done) | (simp [size_drew]; omega))
       clear xc; have xc := xc_; clear xc_
       have xt_ : Box w10 (w.heap.size + 1) #[.int .i64 tI0, .int .i64 tI1] 29 := (xt.alloc _).below b10 (by first | omega | (simp [size_drew]; done) | (simp [size_drew]; omega))
       clear xt; have xt := xt_; clear xt_
       have xr_ : Box w10 (w.heap.size + 1 + 1) #[.int .i64 0, .slice none 0 0, .slice none 0 0] 33 := (xr.alloc _).below b10 (by first | omega | (simp [size_drew]; done) | (simp [size_drew]; omega))
       clear xr; have xr := xr_; clear xr_
       have xq_ : Box w10 (w2.heap.size) #[.int .i64 d, .slice zA zn zc, .slice tA tn tc] 33 := (xq.alloc _).below b10 (by first | omega | (simp [size_drew]; done) | (simp [size_drew]; omega))
       clear xq; have xq := xq_; clear xq_
       have xg_ : Box w10 (w9.heap.size) #[.int .i64 1, .int .i64 (m : Int), .int .i64 0] 74 := (Box.new (g := w9.heap.size) _ #[.int .i64 1, .int .i64 (m : Int), .int .i64 0] 74 (by simp)).below b10 (by first | omega | (simp [size_drew]; done) | (simp [size_drew]; omega))
       have xg := xg_; clear xg_
       have hT2 := Lib.hid (show gTs tI0 tI1 d cL0 (k + 1) = gTs tI0 tI1 d cL0 k by rw [gTs, hG.out, if_neg (by show ¬ (1 : Int) = 4; decide), List.append_nil])
       have hZ2 := Lib.hid (show gZs tI0 tI1 d cL0 (k + 1) = gZs tI0 tI1 d cL0 k ++ [inputZero tI0 tI1 (m : Int)] by rw [gZs, zNew, hG.out]; rfl)
       obtain ⟨cxq_0, cxq_1, cxq_2, fxq_0, fxq_1, fxq_2⟩ := xq.three
       have l_xq_0 : w2.heap.size < w10.heap.size := by omega
       obtain ⟨cxc_0, cxc_1, fxc_0, fxc_1⟩ := xc.two
       have l_xc_0 : w.heap.size < w10.heap.size := by omega
       go_wp2_with ((at_builtin; go_must (refine append_D rfl _ _ rfl rfl (rz.alloc _) rfl (Ints.new (g := w10.heap.size) _ [inputZero tI0 tI1 (m : Int)] 3 (by simp) rfl) (by have := hgl.out; omega) ?_); intro yA yn yc ylo yhi w11 rz_ drz c11; have z11 := c11.size; (try simp only [World.size_alloc, World.size_setCell, size_drew] at z11 drz); have B11 : Below w.heap.size w w11 := Below.trans (b := _) (by repeat (with_reducible (first | assumption | exact Below.refl _ _ | refine Below.alloc ?_ (by first | omega | (simp; done) | (simp; omega)) _ | refine Below.setCell ?_ (by first | omega | (simp; done) | (simp; omega)) _ | refine Below.drew ?_ | refine below_drewN ?_ _))) (c11.below (by omega) (by first | omega | (simp [size_drew]; done) | (simp [size_drew]; omega))); clear rz; have rz := rz_; clear rz_; have rt_ := (rt.alloc _).away c11 (by omega); clear rt; have rt := rt_; clear rt_; have xc_ : Box w11 (w.heap.size) #[.slice (some ⟨g, o, none⟩) cn0 cc0, (.slice cA1 cn1 cc1)] 27 := (xc.alloc _).chg c11 (by omega); clear xc; have xc := xc_; clear xc_; have xt_ : Box w11 (w.heap.size + 1) #[.int .i64 tI0, .int .i64 tI1] 29 := (xt.alloc _).chg c11 (by omega); clear xt; have xt := xt_; clear xt_; have xr_ : Box w11 (w.heap.size + 1 + 1) #[.int .i64 0, .slice none 0 0, .slice none 0 0] 33 := (xr.alloc _).chg c11 (by omega); clear xr; have xr := xr_; clear xr_; have xq_ : Box w11 (w2.heap.size) #[.int .i64 d, .slice zA zn zc, .slice tA tn tc] 33 := (xq.alloc _).chg c11 (by omega); clear xq; have xq := xq_; clear xq_; have xg_ : Box w11 (w9.heap.size) #[.int .i64 1, .int .i64 (m : Int), .int .i64 0] 74 := (xg.alloc _).chg c11 (by omega); clear xg; have xg := xg_; clear xg_; obtain ⟨kxq_0, kxq_1, kxq_2, gxq_0, gxq_1, gxq_2⟩ := xq.three; have yxq := xq.lt))
       rw [← hZ2.out] at rz
       rw [← hT2.out] at rt
       go_wp2
       go_roundw
       case rel => exact ⟨k + 1, _, _, _, _, _, _, _, _, _, _, by omega, by go_num, (rz.setBox (by omega)), (rt.setBox (by omega)), by omega, by omega, by omega, (xc.far (by omega)), (xt.far (by omega)), (xr.far (by omega)), (xq.setAt (i := 1) (v := .slice yA yn yc) (ds := #[.int .i64 d, .slice yA yn yc, .slice tA tn tc]) (by simp)), by repeat (with_reducible (first | assumption | exact Below.refl _ _ | refine Below.alloc ?_ (by first | omega | (simp; done) | (simp; omega)) _ | refine Below.setCell ?_ (by first | omega | (simp; done) | (simp; omega)) _ | refine Below.drew ?_ | refine below_drewN ?_ _))⟩
       case measure => simp [intOf]; omega
      ·rw [hgt] at d0 d1 d2
       dsimp only at d0 d1 d2
       have hG := Lib.hid hgt
       clear hgt
       have e0 : w9.cell? ⟨g, o + k * 3, none⟩ = some (.int .i64 2) := (cellB hg d0)
       have e0_l : g < w9.heap.size := by omega
       have e1 : w9.cell? ⟨g, o + k * 3 + 1, none⟩ = some (.int .i64 (m : Int)) := (cellB hg d1)
       have e1_l : g < w9.heap.size := by omega
       have e2 : w9.cell? ⟨g, o + k * 3 + 2, none⟩ = some (.int .i64 0) := (cellB hg d2)
       have e2_l : g < w9.heap.size := by omega
       obtain ⟨cxc_0, cxc_1, fxc_0, fxc_1⟩ := xc.two
       have l_xc_0 : w.heap.size < w9.heap.size := by omega
       have l_xc_1 : w.heap.size < w9.heap.size + 1 := by omega
       obtain ⟨cxt_0, cxt_1, fxt_0, fxt_1⟩ := xt.two
       have l_xt_0 : w.heap.size + 1 < w9.heap.size := by omega
       have l_xt_1 : w.heap.size + 1 < w9.heap.size + 1 := by omega
       go_wp2_with fail
       refine (iInputZero_L tI0 tI1 (1000 + (k : Int))).mono ?_
       rintro e w10 ⟨rfl, b10⟩
       clear cxc_0 cxc_1 fxc_0 fxc_1 l_xc_0 l_xc_1 cxt_0 cxt_1 fxt_0 fxt_1 l_xt_0 l_xt_1
       have z10 := b10.size
       try simp only [World.size_alloc, World.size_setCell, size_drew] at z10
       have B10 : Below w.heap.size w w10 := Below.t b10
       have rz_ := (rz.alloc _).below b10
       clear rz; have rz := rz_; clear rz_
       have rt_ := (rt.alloc _).below b10
       clear rt; have rt := rt_; clear rt_
       have xc_ : Box w10 (w.heap.size) #[.slice (some ⟨g, o, none⟩) cn0 cc0, (.slice cA1 cn1 cc1)] 27 := (xc.alloc _).below b10 (by first | omega | (simp [size_drew]; done) | (simp [size_drew]; omega))
       clear xc; have xc := xc_; clear xc_
       have xt_ : Box w10 (w.heap.size + 1) #[.int .i64 tI0, .int .i64 tI1] 29 := (xt.alloc _).below b10 (by first | omega | (simp [size_drew]; done) | (simp [size_drew]; omega))
       clear xt; have xt := xt_; clear xt_
       have xr_ : Box w10 (w.heap.size + 1 + 1) #[.int .i64 0, .slice none 0 0, .slice none 0 0] 33 := (xr.alloc _).below b10 (by first | omega | (simp [size_drew]; done) | (simp [size_drew]; omega))
       clear xr; have xr := xr_; clear xr_
       have xq_ : Box w10 (w2.heap.size) #[.int .i64 d, .slice zA zn zc, .slice tA tn tc] 33 := (xq.alloc _).below b10 (by first | omega | (simp [size_drew]; done) | (simp [size_drew]; omega))
       clear xq; have xq := xq_; clear xq_
       have xg_ : Box w10 (w9.heap.size) #[.int .i64 2, .int .i64 (m : Int), .int .i64 0] 74 := (Box.new (g := w9.heap.size) _ #[.int .i64 2, .int .i64 (m : Int), .int .i64 0] 74 (by simp)).below b10 (by first | omega | (simp [size_drew]; done) | (simp [size_drew]; omega))
       have xg := xg_; clear xg_
       have hT2 := Lib.hid (show gTs tI0 tI1 d cL0 (k + 1) = gTs tI0 tI1 d cL0 k by rw [gTs, hG.out, if_neg (by show ¬ (2 : Int) = 4; decide), List.append_nil])
       have hZ2 := Lib.hid (show gZs tI0 tI1 d cL0 (k + 1) = gZs tI0 tI1 d cL0 k ++ [inputZero tI0 tI1 (1000 + (k : Int))] by rw [gZs, zNew, hG.out]; rfl)
       obtain ⟨cxq_0, cxq_1, cxq_2, fxq_0, fxq_1, fxq_2⟩ := xq.three
       have l_xq_0 : w2.heap.size < w10.heap.size := by omega
       obtain ⟨cxc_0, cxc_1, fxc_0, fxc_1⟩ := xc.two
       have l_xc_0 : w.heap.size < w10.heap.size := by omega
       go_wp2_with ((at_builtin; go_must (refine append_D rfl _ _ rfl rfl (rz.alloc _) rfl (Ints.new (g := w10.heap.size) _ [inputZero tI0 tI1 (1000 + (k : Int))] 3 (by simp) rfl) (by have := hgl.out; omega) ?_); intro yA yn yc ylo yhi w11 rz_ drz c11; have z11 := c11.size; (try simp only [World.size_alloc, World.size_setCell, size_drew] at z11 drz); have B11 : Below w.heap.size w w11 := Below.trans (b := _) (by repeat (with_reducible (first | assumption | exact Below.refl _ _ | refine Below.alloc ?_ (by first | omega | (simp; done) | (simp; omega)) _ | refine Below.setCell ?_ (by first | omega | (simp; done) | (simp; omega)) _ | refine Below.drew ?_ | refine below_drewN ?_ _))) (c11.below (by omega) (by first | omega | (simp [size_drew]; done) | (simp [size_drew]; omega))); clear rz; have rz := rz_; clear rz_; have rt_ := (rt.alloc _).away c11 (by omega); clear rt; have rt := rt_; clear rt_; have xc_ : Box w11 (w.heap.size) #[.slice (some ⟨g, o, none⟩) cn0 cc0, (.slice cA1 cn1 cc1)] 27 := (xc.alloc _).chg c11 (by omega); clear xc; have xc := xc_; clear xc_; have xt_ : Box w11 (w.heap.size + 1) #[.int .i64 tI0, .int .i64 tI1] 29 := (xt.alloc _).chg c11 (by omega); clear xt; have xt := xt_; clear xt_; have xr_ : Box w11 (w.heap.size + 1 + 1) #[.int .i64 0, .slice none 0 0, .slice none 0 0] 33 := (xr.alloc _).chg c11 (by omega); clear xr; have xr := xr_; clear xr_; have xq_ : Box w11 (w2.heap.size) #[.int .i64 d, .slice zA zn zc, .slice tA tn tc] 33 := (xq.alloc _).chg c11 (by omega); clear xq; have xq := xq_; clear xq_; have xg_ : Box w11 (w9.heap.size) #[.int .i64 2, .int .i64 (m : Int), .int .i64 0] 74 := (xg.alloc _).chg c11 (by omega); clear xg; have xg := xg_; clear xg_; obtain ⟨kxq_0, kxq_1, kxq_2, gxq_0, gxq_1, gxq_2⟩ := xq.three; have yxq := xq.lt))
       rw [← hZ2.out] at rz
       rw [← hT2.out] at rt
       go_wp2
       go_roundw
       case rel => exact ⟨k + 1, _, _, _, _, _, _, _, _, _, _, by omega, by go_num, (rz.setBox (by omega)), (rt.setBox (by omega)), by omega, by omega, by omega, (xc.far (by omega)), (xt.far (by omega)), (xr.far (by omega)), (xq.setAt (i := 1) (v := .slice yA yn yc) (ds := #[.int .i64 d, .slice yA yn yc, .slice tA tn tc]) (by simp)), by repeat (with_reducible (first | assumption | exact Below.refl _ _ | refine Below.alloc ?_ (by first | omega | (simp; done) | (simp; omega)) _ | refine Below.setCell ?_ (by first | omega | (simp; done) | (simp; omega)) _ | refine Below.drew ?_ | refine below_drewN ?_ _))⟩
       case measure => simp [intOf]; omega
      ·rw [hgt] at d0 d1 d2
       dsimp only at d0 d1 d2
       have hG := Lib.hid hgt
       clear hgt
       have e0 : w9.cell? ⟨g, o + k * 3, none⟩ = some (.int .i64 3) := (cellB hg d0)
       have e0_l : g < w9.heap.size := by omega
       have e1 : w9.cell? ⟨g, o + k * 3 + 1, none⟩ = some (.int .i64 (m : Int)) := (cellB hg d1)
       have e1_l : g < w9.heap.size := by omega
       have e2 : w9.cell? ⟨g, o + k * 3 + 2, none⟩ = some (.int .i64 (j : Int)) := (cellB hg d2)
       have e2_l : g < w9.heap.size := by omega
       obtain ⟨v1, v2, rfl⟩ := rz.some (by rw [hgl.out]; omega)
       have hom := OwnL.cellAt rz m (by rw [hgl.out]; exact hmb)
       have hoj := OwnL.cellAt rz j (by rw [hgl.out]; exact hjb)
       have v1l : v1 < w9.heap.size := World.block_lt_of_cell? _ _ hom
       have hzbm : m < zn := by omega
       have hzbj : j < zn := by omega
       obtain ⟨cxc_0, cxc_1, fxc_0, fxc_1⟩ := xc.two
       have l_xc_0 : w.heap.size < w9.heap.size := by omega
       have l_xc_1 : w.heap.size < w9.heap.size + 1 := by omega
       go_wp2_with fail
       clear cxc_0 cxc_1 fxc_0 fxc_1 l_xc_0 l_xc_1
       obtain ⟨cxq_0, cxq_1, cxq_2, fxq_0, fxq_1, fxq_2⟩ := xq.three
       have l_xq_0 : w2.heap.size < w9.heap.size := by omega
       have l_xq_1 : w2.heap.size < w9.heap.size + 1 := by omega
       go_wp2_with fail
       clear cxq_0 cxq_1 cxq_2 fxq_0 fxq_1 fxq_2 l_xq_0 l_xq_1
       generalize hw10 : World.alloc _ _ = w10
       have z10 : w9.heap.size + 1 ≤ w10.heap.size := by rw [← hw10]; simp
       have B10 : Below w.heap.size w w10 := by rw [← hw10]; repeat (with_reducible (first | assumption | exact Below.refl _ _ | refine Below.alloc ?_ (by first | omega | (simp; done) | (simp; omega)) _ | refine Below.setCell ?_ (by first | omega | (simp; done) | (simp; omega)) _ | refine Below.drew ?_ | refine below_drewN ?_ _))
       have hK : ∀ k, k < w9.heap.size → w10.heap[k]? = w9.heap[k]? := by
        intro k hk; rw [← hw10]
        repeat (first | rfl | refine (Below.heap_alloc _ _ _ (by first | omega | (simp; omega))).trans ?_)
       have rz_ := rz.keepBlock (w' := w10) (by omega) (fun k h1 h2 => hK k  (by have := rz.2.1; omega))
       clear rz; have rz := rz_; clear rz_
       have rt_ := rt.keepBlock (w' := w10) (by omega) (fun k h1 h2 => hK k  (by have := rt.2.1; omega))
       clear rt; have rt := rt_; clear rt_
       have xc_ : Box w10 (w.heap.size) #[.slice (some ⟨g, o, none⟩) cn0 cc0, (.slice cA1 cn1 cc1)] 27 := (by rw [← hw10]; exact (xc.alloc _))
       clear xc; have xc := xc_; clear xc_
       have xt_ : Box w10 (w.heap.size + 1) #[.int .i64 tI0, .int .i64 tI1] 29 := (by rw [← hw10]; exact (xt.alloc _))
       clear xt; have xt := xt_; clear xt_
       have xr_ : Box w10 (w.heap.size + 1 + 1) #[.int .i64 0, .slice none 0 0, .slice none 0 0] 33 := (by rw [← hw10]; exact (xr.alloc _))
       clear xr; have xr := xr_; clear xr_
       have xq_ : Box w10 (w2.heap.size) #[.int .i64 d, .slice (some ⟨v1, v2, none⟩) zn zc, .slice tA tn tc] 33 := (by rw [← hw10]; exact (xq.alloc _))
       clear xq; have xq := xq_; clear xq_
       have xg_ : Box w10 (w9.heap.size) #[.int .i64 3, .int .i64 (m : Int), .int .i64 (j : Int)] 74 := (by rw [← hw10]; exact (Box.new (g := w9.heap.size) _ #[.int .i64 3, .int .i64 (m : Int), .int .i64 (j : Int)] 74 (by simp)))
       have xg := xg_; clear xg_
       clear hw10 hK
       refine wp_region_held_drew (S := fun W => W.cell? ⟨w2.heap.size, 0, none⟩ = some (.int .i64 d) ∧ W.cell? ⟨w2.heap.size, 1, none⟩ = some (.slice (some ⟨v1, v2, none⟩) zn zc) ∧ W.cell? ⟨w2.heap.size, 2, none⟩ = some (.slice tA tn tc) ∧ W.cell? ⟨w9.heap.size, 0, none⟩ = some (.int .i64 3) ∧ W.cell? ⟨w9.heap.size, 1, none⟩ = some (.int .i64 (m : Int)) ∧ W.cell? ⟨w9.heap.size, 2, none⟩ = some (.int .i64 (j : Int)) ∧ W.cell? ⟨v1, v2 + m, none⟩ = some (.int .i64 (nth (gZs tI0 tI1 d cL0 k) m)) ∧ W.cell? ⟨v1, v2 + j, none⟩ = some (.int .i64 (nth (gZs tI0 tI1 d cL0 k) j))) (by kernel_rfl) ⟨xq.drew.three.1, xq.drew.three.2.1, xq.drew.three.2.2.1, xg.drew.three.1, xg.drew.three.2.1, xg.drew.three.2.2.1, (OwnL.cellAt (rz.drew) m (by rw [hgl.out]; exact hmb)), (OwnL.cellAt (rz.drew) j (by rw [hgl.out]; exact hjb))⟩ (fun hS => ?_)
       (refine tk 0 hS ?_; (try simp only [Act.put, layA, layB, layC]))
       (refine tk 1 hS ?_; (try simp only [Act.put, layA, layB, layC]))
       (refine tk 2 hS ?_; (try simp only [Act.put, layA, layB, layC]))
       (refine tk 3 hS ?_; (try simp only [Act.put, layA, layB, layC]))
       (refine tk 4 hS ?_; (try simp only [Act.put, layA, layB, layC]))
       (refine tk 5 hS ?_; (try simp only [Act.put, layA, layB, layC]))
       (refine tk 6 hS ?_; (try simp only [Act.put, layA, layB, layC]))
       (refine tk 7 hS ?_; (try simp only [Act.put, layA, layB, layC]))
       (refine tk 8 hS ?_; (try simp only [Act.put, layA, layB, layC]))
       (refine tk 9 hS ?_; (try simp only [Act.put, layA, layB, layC]))
       (refine tk 10 hS ?_; (try simp only [Act.put, layA, layB, layC]))
       (refine tk 11 hS ?_; (try simp only [Act.put, layA, layB, layC]))
       (refine tk 12 hS ?_; (try simp only [Act.put, layA, layB, layC]))
       (refine tk 13 hS ?_; (try simp only [Act.put, layA, layB, layC]))
       clear hS
       refine wpAnyH_done (by kernel_rfl) ?_ _
       generalize hw11 : World.drew _ = w11
       have z11 : w10.heap.size ≤ w11.heap.size := by rw [← hw11]; simp [size_drew]
       have B11 : Below w.heap.size w w11 := by rw [← hw11]; repeat (with_reducible (first | assumption | exact Below.refl _ _ | refine Below.alloc ?_ (by first | omega | (simp; done) | (simp; omega)) _ | refine Below.setCell ?_ (by first | omega | (simp; done) | (simp; omega)) _ | refine Below.drew ?_ | refine below_drewN ?_ _))
       have hK : ∀ k, k < w10.heap.size → w11.heap[k]? = w10.heap[k]? := by
        intro k hk; rw [← hw11]
        repeat (first | rfl | refine (Below.heap_alloc _ _ _ (by first | omega | (simp; omega))).trans ?_)
       have rz_ := rz.keepBlock (w' := w11) (by omega) (fun k h1 h2 => hK k  (by have := rz.2.1; omega))
       clear rz; have rz := rz_; clear rz_
       have rt_ := rt.keepBlock (w' := w11) (by omega) (fun k h1 h2 => hK k  (by have := rt.2.1; omega))
       clear rt; have rt := rt_; clear rt_
       have xc_ : Box w11 (w.heap.size) #[.slice (some ⟨g, o, none⟩) cn0 cc0, (.slice cA1 cn1 cc1)] 27 := (by rw [← hw11]; exact xc)
       clear xc; have xc := xc_; clear xc_
       have xt_ : Box w11 (w.heap.size + 1) #[.int .i64 tI0, .int .i64 tI1] 29 := (by rw [← hw11]; exact xt)
       clear xt; have xt := xt_; clear xt_
       have xr_ : Box w11 (w.heap.size + 1 + 1) #[.int .i64 0, .slice none 0 0, .slice none 0 0] 33 := (by rw [← hw11]; exact xr)
       clear xr; have xr := xr_; clear xr_
       have xq_ : Box w11 (w2.heap.size) #[.int .i64 d, .slice (some ⟨v1, v2, none⟩) zn zc, .slice tA tn tc] 33 := (by rw [← hw11]; exact xq)
       clear xq; have xq := xq_; clear xq_
       have xg_ : Box w11 (w9.heap.size) #[.int .i64 3, .int .i64 (m : Int), .int .i64 (j : Int)] 74 := (by rw [← hw11]; exact xg)
       clear xg; have xg := xg_; clear xg_
       clear hw11 hK
       have hT2 := Lib.hid (show gTs tI0 tI1 d cL0 (k + 1) = gTs tI0 tI1 d cL0 k by rw [gTs, hG.out, if_neg (by show ¬ (3 : Int) = 4; decide), List.append_nil])
       have hZ2 := Lib.hid (show gZs tI0 tI1 d cL0 (k + 1) = gZs tI0 tI1 d cL0 k ++ [xo (nth (gZs tI0 tI1 d cL0 k) m) (nth (gZs tI0 tI1 d cL0 k) j)] by rw [gZs, zNew, hG.out]; rfl)
       obtain ⟨cxq_0, cxq_1, cxq_2, fxq_0, fxq_1, fxq_2⟩ := xq.three
       have l_xq_0 : w2.heap.size < w11.heap.size := by omega
       obtain ⟨cxc_0, cxc_1, fxc_0, fxc_1⟩ := xc.two
       have l_xc_0 : w.heap.size < w11.heap.size := by omega
       go_wp2_with ((at_builtin; go_must (refine append_D rfl _ _ rfl rfl (rz.alloc _) rfl (Ints.new (g := w11.heap.size) _ [xo (nth (gZs tI0 tI1 d cL0 k) m) (nth (gZs tI0 tI1 d cL0 k) j)] 3 (by simp) rfl) (by have := hgl.out; omega) ?_); intro yA yn yc ylo yhi w12 rz_ drz c12; have z12 := c12.size; (try simp only [World.size_alloc, World.size_setCell, size_drew] at z12 drz); have B12 : Below w.heap.size w w12 := Below.trans (b := _) (by repeat (with_reducible (first | assumption | exact Below.refl _ _ | refine Below.alloc ?_ (by first | omega | (simp; done) | (simp; omega)) _ | refine Below.setCell ?_ (by first | omega | (simp; done) | (simp; omega)) _ | refine Below.drew ?_ | refine below_drewN ?_ _))) (c12.below (by omega) (by first | omega | (simp [size_drew]; done) | (simp [size_drew]; omega))); clear rz; have rz := rz_; clear rz_; have rt_ := (rt.alloc _).away c12 (by omega); clear rt; have rt := rt_; clear rt_; have xc_ : Box w12 (w.heap.size) #[.slice (some ⟨g, o, none⟩) cn0 cc0, (.slice cA1 cn1 cc1)] 27 := (xc.alloc _).chg c12 (by omega); clear xc; have xc := xc_; clear xc_; have xt_ : Box w12 (w.heap.size + 1) #[.int .i64 tI0, .int .i64 tI1] 29 := (xt.alloc _).chg c12 (by omega); clear xt; have xt := xt_; clear xt_; have xr_ : Box w12 (w.heap.size + 1 + 1) #[.int .i64 0, .slice none 0 0, .slice none 0 0] 33 := (xr.alloc _).chg c12 (by omega); clear xr; have xr := xr_; clear xr_; have xq_ : Box w12 (w2.heap.size) #[.int .i64 d, .slice (some ⟨v1, v2, none⟩) zn zc, .slice tA tn tc] 33 := (xq.alloc _).chg c12 (by omega); clear xq; have xq := xq_; clear xq_; have xg_ : Box w12 (w9.heap.size) #[.int .i64 3, .int .i64 (m : Int), .int .i64 (j : Int)] 74 := (xg.alloc _).chg c12 (by omega); clear xg; have xg := xg_; clear xg_; obtain ⟨kxq_0, kxq_1, kxq_2, gxq_0, gxq_1, gxq_2⟩ := xq.three; have yxq := xq.lt))
       rw [← hZ2.out] at rz
       rw [← hT2.out] at rt
       go_wp2
       go_roundw
       case rel => exact ⟨k + 1, _, _, _, _, _, _, _, _, _, _, by omega, by go_num, (rz.setBox (by omega)), (rt.setBox (by omega)), by omega, by omega, by omega, (xc.far (by omega)), (xt.far (by omega)), (xr.far (by omega)), (xq.setAt (i := 1) (v := .slice yA yn yc) (ds := #[.int .i64 d, .slice yA yn yc, .slice tA tn tc]) (by simp)), by repeat (with_reducible (first | assumption | exact Below.refl _ _ | refine Below.alloc ?_ (by first | omega | (simp; done) | (simp; omega)) _ | refine Below.setCell ?_ (by first | omega | (simp; done) | (simp; omega)) _ | refine Below.drew ?_ | refine below_drewN ?_ _))⟩
       case measure => simp [intOf]; omega
      ·rw [hgt] at d0 d1 d2
       dsimp only at d0 d1 d2
       have hG := Lib.hid hgt
       clear hgt
       have e0 : w9.cell? ⟨g, o + k * 3, none⟩ = some (.int .i64 4) := (cellB hg d0)
       have e0_l : g < w9.heap.size := by omega
       have e1 : w9.cell? ⟨g, o + k * 3 + 1, none⟩ = some (.int .i64 (m : Int)) := (cellB hg d1)
       have e1_l : g < w9.heap.size := by omega
       have e2 : w9.cell? ⟨g, o + k * 3 + 2, none⟩ = some (.int .i64 (j : Int)) := (cellB hg d2)
       have e2_l : g < w9.heap.size := by omega
       obtain ⟨v1, v2, rfl⟩ := rz.some (by rw [hgl.out]; omega)
       have hom := OwnL.cellAt rz m (by rw [hgl.out]; exact hmb)
       have hoj := OwnL.cellAt rz j (by rw [hgl.out]; exact hjb)
       have v1l : v1 < w9.heap.size := World.block_lt_of_cell? _ _ hom
       have hzbm : m < zn := by omega
       have hzbj : j < zn := by omega
       obtain ⟨a, hae⟩ : ∃ a, Hid (nth (gZs tI0 tI1 d cL0 k) m = a) := ⟨_, rfl⟩
       obtain ⟨b, hbe⟩ : ∃ b, Hid (nth (gZs tI0 tI1 d cL0 k) j = b) := ⟨_, rfl⟩
       rw [hae.out] at hom
       rw [hbe.out] at hoj
       have iz := gZs_lab HK.out hT.out ld.out k (by rw [cL0l.out]; omega)
       have la : Hid (lab a = true) := by show _ = _; rw [← hae.out]; exact all_nth iz (by rw [hgl.out]; exact hmb)
       have lb : Hid (lab b = true) := by show _ = _; rw [← hbe.out]; exact all_nth iz (by rw [hgl.out]; exact hjb)
       clear iz
       have hw1 : IntKind.i64.wrap (2 * (k : Int)) = 2 * (k : Int) := by (rw [IntKind.wrap_i64]; (first | omega | (unfold wrap64; omega)))
       have hw2 : IntKind.i64.wrap (2 * (k : Int) + 1) = 2 * (k : Int) + 1 := by (rw [IntKind.wrap_i64]; (first | omega | (unfold wrap64; omega)))
       have hm1 : IntKind.i64.wrap (bits .and .i64 b 1 * d) = sel b d := by (have e := sel_mul lb.out d; have e2 := lab_iff.1 (sel_lab (b := b) ld.out); unfold bit0 at e; rw [e, IntKind.wrap_i64]; (first | omega | (unfold wrap64; omega)))
       obtain ⟨cxc_0, cxc_1, fxc_0, fxc_1⟩ := xc.two
       have l_xc_0 : w.heap.size < w9.heap.size := by omega
       have l_xc_1 : w.heap.size < w9.heap.size + 1 := by omega
       obtain ⟨cxq_0, cxq_1, cxq_2, fxq_0, fxq_1, fxq_2⟩ := xq.three
       have l_xq_0 : w2.heap.size < w9.heap.size := by omega
       have l_xq_1 : w2.heap.size < w9.heap.size + 1 := by omega
       go_wp2_with fail
       clear cxc_0 cxc_1 fxc_0 fxc_1 l_xc_0 l_xc_1 cxq_0 cxq_1 cxq_2 fxq_0 fxq_1 fxq_2 l_xq_0 l_xq_1
       obtain ⟨cxq_0, cxq_1, cxq_2, fxq_0, fxq_1, fxq_2⟩ := xq.three
       have l_xq_0 : w2.heap.size < w9.heap.size := by omega
       have l_xq_1 : w2.heap.size < w9.heap.size + 1 := by omega
       go_wp2_with fail
       clear cxq_0 cxq_1 cxq_2 fxq_0 fxq_1 fxq_2 l_xq_0 l_xq_1
       generalize hw10 : World.alloc _ _ = w10
       have z10 : w9.heap.size + 1 ≤ w10.heap.size := by rw [← hw10]; simp
       have B10 : Below w.heap.size w w10 := by rw [← hw10]; repeat (with_reducible (first | assumption | exact Below.refl _ _ | refine Below.alloc ?_ (by first | omega | (simp; done) | (simp; omega)) _ | refine Below.setCell ?_ (by first | omega | (simp; done) | (simp; omega)) _ | refine Below.drew ?_ | refine below_drewN ?_ _))
       have hK : ∀ k, k < w9.heap.size → w10.heap[k]? = w9.heap[k]? := by
        intro k hk; rw [← hw10]
        repeat (first | rfl | refine (Below.heap_alloc _ _ _ (by first | omega | (simp; omega))).trans ?_)
       have rz_ := rz.keepBlock (w' := w10) (by omega) (fun k h1 h2 => hK k  (by have := rz.2.1; omega))
       clear rz; have rz := rz_; clear rz_
       have rt_ := rt.keepBlock (w' := w10) (by omega) (fun k h1 h2 => hK k  (by have := rt.2.1; omega))
       clear rt; have rt := rt_; clear rt_
       have xc_ : Box w10 (w.heap.size) #[.slice (some ⟨g, o, none⟩) cn0 cc0, (.slice cA1 cn1 cc1)] 27 := (by rw [← hw10]; exact (xc.alloc _))
       clear xc; have xc := xc_; clear xc_
       have xt_ : Box w10 (w.heap.size + 1) #[.int .i64 tI0, .int .i64 tI1] 29 := (by rw [← hw10]; exact (xt.alloc _))
       clear xt; have xt := xt_; clear xt_
       have xr_ : Box w10 (w.heap.size + 1 + 1) #[.int .i64 0, .slice none 0 0, .slice none 0 0] 33 := (by rw [← hw10]; exact (xr.alloc _))
       clear xr; have xr := xr_; clear xr_
       have xq_ : Box w10 (w2.heap.size) #[.int .i64 d, .slice (some ⟨v1, v2, none⟩) zn zc, .slice tA tn tc] 33 := (by rw [← hw10]; exact (xq.alloc _))
       clear xq; have xq := xq_; clear xq_
       have xg_ : Box w10 (w9.heap.size) #[.int .i64 4, .int .i64 (m : Int), .int .i64 (j : Int)] 74 := (by rw [← hw10]; exact (Box.new (g := w9.heap.size) _ #[.int .i64 4, .int .i64 (m : Int), .int .i64 (j : Int)] 74 (by simp)))
       have xg := xg_; clear xg_
       clear hw10 hK
       refine wp_region_held_drew (S := fun W => W.cell? ⟨w2.heap.size, 0, none⟩ = some (.int .i64 d) ∧ W.cell? ⟨w2.heap.size, 1, none⟩ = some (.slice (some ⟨v1, v2, none⟩) zn zc) ∧ W.cell? ⟨w2.heap.size, 2, none⟩ = some (.slice tA tn tc)) (by kernel_rfl) ⟨xq.drew.three.1, xq.drew.three.2.1, xq.drew.three.2.2.1⟩ (fun hS => ?_)
       (refine tk 0 hS ?_; (try simp only [Act.put, layA, layB, layC]))
       (refine tk 1 hS ?_; (try simp only [Act.put, layA, layB, layC]))
       (refine tk 2 hS ?_; (try simp only [Act.put, layA, layB, layC]))
       (refine tk 4 hS ?_; (try simp only [Act.put, layA, layB, layC]))
       (refine tk 5 hS ?_; (try simp only [Act.put, layA, layB, layC]))
       (refine tk 6 hS ?_; (try simp only [Act.put, layA, layB, layC]))
       (refine tk 7 hS ?_; (try simp only [Act.put, layA, layB, layC]))
       (refine tk 8 hS ?_; (try simp only [Act.put, layA, layB, layC]))
       (refine tk 9 hS ?_; (try simp only [Act.put, layA, layB, layC]))
       (refine tk 12 hS ?_; (try simp only [Act.put, layA, layB, layC]))
       (refine tk 13 hS ?_; (try simp only [Act.put, layA, layB, layC]))
       (refine tk 14 hS ?_; (try simp only [Act.put, layA, layB, layC]))
       (refine tk 15 hS ?_; (try simp only [Act.put, layA, layB, layC]))
       (refine tk 16 hS ?_; (try simp only [Act.put, layA, layB, layC]))
       refine on 3 ?_
       refine callH (by go_simp; (first | done | with_reducible rfl | exact ⟨rfl, rfl⟩)) ?_
       go_at_call 88
       refine (iHashLabel_any _ _ _).mono ?_
       rintro e w_ ⟨rfl, rfl⟩
       refine ⟨_, rfl, hS, fun hS => ?_⟩
       (try simp only [Act.put, layA, layB, layC])
       refine on 10 ?_
       refine callH (by go_simp; (first | done | with_reducible rfl | exact ⟨rfl, rfl⟩)) ?_
       go_at_call 88
       refine (iHashLabel_any _ _ _).mono ?_
       rintro e w_ ⟨rfl, rfl⟩
       refine ⟨_, rfl, hS, fun hS => ?_⟩
       (try simp only [Act.put, layA, layB, layC])
       (refine tk 11 hS ?_; (try simp only [Act.put, layA, layB, layC]))
       (refine tk 17 hS ?_; (try simp only [Act.put, layA, layB, layC]))
       (refine tk 18 hS ?_; (try simp only [Act.put, layA, layB, layC]))
       clear hS
       refine wpAnyH_done (by kernel_rfl) ?_ _
       generalize hw11 : World.drew _ = w11
       have z11 : w10.heap.size ≤ w11.heap.size := by rw [← hw11]; simp [size_drew]
       have B11 : Below w.heap.size w w11 := by rw [← hw11]; repeat (with_reducible (first | assumption | exact Below.refl _ _ | refine Below.alloc ?_ (by first | omega | (simp; done) | (simp; omega)) _ | refine Below.setCell ?_ (by first | omega | (simp; done) | (simp; omega)) _ | refine Below.drew ?_ | refine below_drewN ?_ _))
       have hK : ∀ k, k < w10.heap.size → w11.heap[k]? = w10.heap[k]? := by
        intro k hk; rw [← hw11]
        repeat (first | rfl | refine (Below.heap_alloc _ _ _ (by first | omega | (simp; omega))).trans ?_)
       have rz_ := rz.keepBlock (w' := w11) (by omega) (fun k h1 h2 => hK k  (by have := rz.2.1; omega))
       clear rz; have rz := rz_; clear rz_
       have rt_ := rt.keepBlock (w' := w11) (by omega) (fun k h1 h2 => hK k  (by have := rt.2.1; omega))
       clear rt; have rt := rt_; clear rt_
       have xc_ : Box w11 (w.heap.size) #[.slice (some ⟨g, o, none⟩) cn0 cc0, (.slice cA1 cn1 cc1)] 27 := (by rw [← hw11]; exact xc)
       clear xc; have xc := xc_; clear xc_
       have xt_ : Box w11 (w.heap.size + 1) #[.int .i64 tI0, .int .i64 tI1] 29 := (by rw [← hw11]; exact xt)
       clear xt; have xt := xt_; clear xt_
       have xr_ : Box w11 (w.heap.size + 1 + 1) #[.int .i64 0, .slice none 0 0, .slice none 0 0] 33 := (by rw [← hw11]; exact xr)
       clear xr; have xr := xr_; clear xr_
       have xq_ : Box w11 (w2.heap.size) #[.int .i64 d, .slice (some ⟨v1, v2, none⟩) zn zc, .slice tA tn tc] 33 := (by rw [← hw11]; exact xq)
       clear xq; have xq := xq_; clear xq_
       have xg_ : Box w11 (w9.heap.size) #[.int .i64 4, .int .i64 (m : Int), .int .i64 (j : Int)] 74 := (by rw [← hw11]; exact xg)
       clear xg; have xg := xg_; clear xg_
       clear hw11 hK
       obtain ⟨cxq_0, cxq_1, cxq_2, fxq_0, fxq_1, fxq_2⟩ := xq.three
       have l_xq_0 : w2.heap.size < w11.heap.size := by omega
       go_wp2_with fail
       clear cxq_0 cxq_1 cxq_2 fxq_0 fxq_1 fxq_2 l_xq_0
       refine wp_region_held_drew (S := fun W => W.cell? ⟨w2.heap.size, 0, none⟩ = some (.int .i64 d) ∧ W.cell? ⟨w2.heap.size, 1, none⟩ = some (.slice (some ⟨v1, v2, none⟩) zn zc) ∧ W.cell? ⟨w2.heap.size, 2, none⟩ = some (.slice tA tn tc)) (by kernel_rfl) ⟨xq.drew.three.1, xq.drew.three.2.1, xq.drew.three.2.2.1⟩ (fun hS => ?_)
       (refine tk 0 hS ?_; (try simp only [Act.put, layA, layB, layC]))
       (refine tk 1 hS ?_; (try simp only [Act.put, layA, layB, layC]))
       (refine tk 2 hS ?_; (try simp only [Act.put, layA, layB, layC]))
       (refine tk 3 hS ?_; (try simp only [Act.put, layA, layB, layC]))
       (refine tk 5 hS ?_; (try simp only [Act.put, layA, layB, layC]))
       (refine tk 6 hS ?_; (try simp only [Act.put, layA, layB, layC]))
       (refine tk 7 hS ?_; (try simp only [Act.put, layA, layB, layC]))
       (refine tk 8 hS ?_; (try simp only [Act.put, layA, layB, layC]))
       (refine tk 9 hS ?_; (try simp only [Act.put, layA, layB, layC]))
       (refine tk 10 hS ?_; (try simp only [Act.put, layA, layB, layC]))
       (refine tk 11 hS ?_; (try simp only [Act.put, layA, layB, layC]))
       (refine tk 14 hS ?_; (try simp only [Act.put, layA, layB, layC]))
       refine on 4 ?_
       refine callH (by go_simp; (first | done | with_reducible rfl | exact ⟨rfl, rfl⟩)) ?_
       go_at_call 88
       refine (iHashLabel_any _ _ _).mono ?_
       rintro e w_ ⟨rfl, rfl⟩
       refine ⟨_, rfl, hS, fun hS => ?_⟩
       (try simp only [Act.put, layA, layB, layC])
       refine on 12 ?_
       refine callH (by go_simp; (first | done | with_reducible rfl | exact ⟨rfl, rfl⟩)) ?_
       go_at_call 88
       refine (iHashLabel_any _ _ _).mono ?_
       rintro e w_ ⟨rfl, rfl⟩
       refine ⟨_, rfl, hS, fun hS => ?_⟩
       (try simp only [Act.put, layA, layB, layC])
       (refine tk 13 hS ?_; (try simp only [Act.put, layA, layB, layC]))
       (refine tk 15 hS ?_; (try simp only [Act.put, layA, layB, layC]))
       (refine tk 16 hS ?_; (try simp only [Act.put, layA, layB, layC]))
       clear hS
       refine wpAnyH_done (by kernel_rfl) ?_ _
       generalize hw12 : World.drew _ = w12
       have z12 : w11.heap.size ≤ w12.heap.size := by rw [← hw12]; simp [size_drew]
       have B12 : Below w.heap.size w w12 := by rw [← hw12]; repeat (with_reducible (first | assumption | exact Below.refl _ _ | refine Below.alloc ?_ (by first | omega | (simp; done) | (simp; omega)) _ | refine Below.setCell ?_ (by first | omega | (simp; done) | (simp; omega)) _ | refine Below.drew ?_ | refine below_drewN ?_ _))
       have hK : ∀ k, k < w11.heap.size → w12.heap[k]? = w11.heap[k]? := by
        intro k hk; rw [← hw12]
        repeat (first | rfl | refine (Below.heap_alloc _ _ _ (by first | omega | (simp; omega))).trans ?_)
       have rz_ := rz.keepBlock (w' := w12) (by omega) (fun k h1 h2 => hK k  (by have := rz.2.1; omega))
       clear rz; have rz := rz_; clear rz_
       have rt_ := rt.keepBlock (w' := w12) (by omega) (fun k h1 h2 => hK k  (by have := rt.2.1; omega))
       clear rt; have rt := rt_; clear rt_
       have xc_ : Box w12 (w.heap.size) #[.slice (some ⟨g, o, none⟩) cn0 cc0, (.slice cA1 cn1 cc1)] 27 := (by rw [← hw12]; exact xc)
       clear xc; have xc := xc_; clear xc_
       have xt_ : Box w12 (w.heap.size + 1) #[.int .i64 tI0, .int .i64 tI1] 29 := (by rw [← hw12]; exact xt)
       clear xt; have xt := xt_; clear xt_
       have xr_ : Box w12 (w.heap.size + 1 + 1) #[.int .i64 0, .slice none 0 0, .slice none 0 0] 33 := (by rw [← hw12]; exact xr)
       clear xr; have xr := xr_; clear xr_
       have xq_ : Box w12 (w2.heap.size) #[.int .i64 d, .slice (some ⟨v1, v2, none⟩) zn zc, .slice tA tn tc] 33 := (by rw [← hw12]; exact xq)
       clear xq; have xq := xq_; clear xq_
       have xg_ : Box w12 (w9.heap.size) #[.int .i64 4, .int .i64 (m : Int), .int .i64 (j : Int)] 74 := (by rw [← hw12]; exact xg)
       clear xg; have xg := xg_; clear xg_
       clear hw12 hK
       obtain ⟨cxq_0, cxq_1, cxq_2, fxq_0, fxq_1, fxq_2⟩ := xq.three
       have l_xq_0 : w2.heap.size < w12.heap.size := by omega
       obtain ⟨cxc_0, cxc_1, fxc_0, fxc_1⟩ := xc.two
       have l_xc_0 : w.heap.size < w12.heap.size := by omega
       have hT2 := Lib.hid (show gTs tI0 tI1 d cL0 (k + 1) = gTs tI0 tI1 d cL0 k ++ [tabG d a b (k : Int), tabE d a b (k : Int)] by rw [gTs, hG.out, if_pos rfl, ← hae.out, ← hbe.out]; rfl)
       have l1 := tabG_lab (n := k) (by omega) ld.out la.out lb.out
       have l2 := tabE_lab (n := k) (by omega) ld.out la.out lb.out
       have m1 := sel_mul la.out (tabG d a b (k : Int))
       have m2 := sel_mul lb.out (xo (tabE d a b (k : Int)) a)
       obtain ⟨u1, u2⟩ := lab_iff.1 (sel_lab (b := a) l1)
       obtain ⟨u3, u4⟩ := lab_iff.1 (sel_lab (b := b) (xo_lab l2 la.out))
       have hX := Lib.hid (show xo (xo (xo (hashI a (2 * (k : Int))) (hashI b (2 * (k : Int) + 1))) (bit0 a * tabG d a b (k : Int))) (bit0 b * xo (tabE d a b (k : Int)) a) = andZ d a b (k : Int) by rw [m1, m2]; rfl)
       rw [← m1] at u1 u2
       rw [← m2] at u3 u4
       clear m1 m2 l1 l2
       change 0 ≤ bits .and .i64 a 1 * bits .xor .i64 (bits .xor .i64 (hashI a (2 * (k : Int))) (hashI (bits .xor .i64 a d) (2 * (k : Int)))) (sel b d) at u1
       change bits .and .i64 a 1 * bits .xor .i64 (bits .xor .i64 (hashI a (2 * (k : Int))) (hashI (bits .xor .i64 a d) (2 * (k : Int)))) (sel b d) ≤ 65535 at u2
       change 0 ≤ bits .and .i64 b 1 * bits .xor .i64 (bits .xor .i64 (bits .xor .i64 (hashI b (2 * (k : Int) + 1)) (hashI (bits .xor .i64 b d) (2 * (k : Int) + 1))) a) a at u3
       change bits .and .i64 b 1 * bits .xor .i64 (bits .xor .i64 (bits .xor .i64 (hashI b (2 * (k : Int) + 1)) (hashI (bits .xor .i64 b d) (2 * (k : Int) + 1))) a) a ≤ 65535 at u4
       have tk1 : True := trivial
       have tk2 : True := trivial
       have hZ2 := Lib.hid (show gZs tI0 tI1 d cL0 (k + 1) = gZs tI0 tI1 d cL0 k ++ [andZ d a b (k : Int)] by rw [gZs, zNew, hG.out, ← hae.out, ← hbe.out]; rfl)
       go_wp2_with (first | (go_at_call 88; refine (iHashLabel_any _ _ _).mono ?_; rintro e w_ ⟨rfl, rfl⟩) | (at_builtin; have _t := tk1; clear tk1; go_must (refine append_D rfl _ _ rfl rfl (rt.alloc _) rfl (Ints.new (g := w12.heap.size) _ [tabG d a b (k : Int), tabE d a b (k : Int)] 3 (by simp) rfl) (by have := htl2.out; omega) ?_); intro qA qn qc qlo qhi w13 rt_ drt c13; have z13 := c13.size; (try simp only [World.size_alloc, World.size_setCell, size_drew] at z13 drt); have B13 : Below w.heap.size w w13 := Below.trans (b := _) (by repeat (with_reducible (first | assumption | exact Below.refl _ _ | refine Below.alloc ?_ (by first | omega | (simp; done) | (simp; omega)) _ | refine Below.setCell ?_ (by first | omega | (simp; done) | (simp; omega)) _ | refine Below.drew ?_ | refine below_drewN ?_ _))) (c13.below (by omega) (by first | omega | (simp [size_drew]; done) | (simp [size_drew]; omega))); clear rt; have rt := rt_; clear rt_; have rz_ := (rz.alloc _).away c13 (by omega); clear rz; have rz := rz_; clear rz_; have xc_ : Box w13 (w.heap.size) #[.slice (some ⟨g, o, none⟩) cn0 cc0, (.slice cA1 cn1 cc1)] 27 := (xc.alloc _).chg c13 (by omega); clear xc; have xc := xc_; clear xc_; have xt_ : Box w13 (w.heap.size + 1) #[.int .i64 tI0, .int .i64 tI1] 29 := (xt.alloc _).chg c13 (by omega); clear xt; have xt := xt_; clear xt_; have xr_ : Box w13 (w.heap.size + 1 + 1) #[.int .i64 0, .slice none 0 0, .slice none 0 0] 33 := (xr.alloc _).chg c13 (by omega); clear xr; have xr := xr_; clear xr_; have xq_ : Box w13 (w2.heap.size) #[.int .i64 d, .slice (some ⟨v1, v2, none⟩) zn zc, .slice tA tn tc] 33 := (xq.alloc _).chg c13 (by omega); clear xq; have xq := xq_; clear xq_; have xg_ : Box w13 (w9.heap.size) #[.int .i64 4, .int .i64 (m : Int), .int .i64 (j : Int)] 74 := (xg.alloc _).chg c13 (by omega); clear xg; have xg := xg_; clear xg_; obtain ⟨kxq_0, kxq_1, kxq_2, gxq_0, gxq_1, gxq_2⟩ := xq.three; have yxq := xq.lt; obtain ⟨kxc_0, kxc_1, gxc_0, gxc_1⟩ := xc.two; have yxc := xc.lt) | (at_builtin; have _t := tk2; clear tk2; go_must (refine append_D rfl _ _ rfl rfl ((rz.setBox (by omega)).alloc _) rfl (Ints.new (g := w13.heap.size) _ [xo (xo (xo (hashI a (2 * (k : Int))) (hashI b (2 * (k : Int) + 1))) (bit0 a * tabG d a b (k : Int))) (bit0 b * xo (tabE d a b (k : Int)) a)] 3 (by simp) rfl) (by have := hgl.out; omega) ?_); intro yA yn yc ylo yhi w14 rz_ drz c14; have z14 := c14.size; (try simp only [World.size_alloc, World.size_setCell, size_drew] at z14 drz); have B14 : Below w.heap.size w w14 := Below.trans (b := _) (by repeat (with_reducible (first | assumption | exact Below.refl _ _ | refine Below.alloc ?_ (by first | omega | (simp; done) | (simp; omega)) _ | refine Below.setCell ?_ (by first | omega | (simp; done) | (simp; omega)) _ | refine Below.drew ?_ | refine below_drewN ?_ _))) (c14.below (by omega) (by first | omega | (simp [size_drew]; done) | (simp [size_drew]; omega))); clear rz; have rz := rz_; clear rz_; have rt_ := ((rt.setBox (by omega)).alloc _).away c14 (by omega); clear rt; have rt := rt_; clear rt_; have xc_ : Box w14 (w.heap.size) #[.slice (some ⟨g, o, none⟩) cn0 cc0, (.slice cA1 cn1 cc1)] 27 := ((xc.far (by omega)).alloc _).chg c14 (by omega); clear xc; have xc := xc_; clear xc_; have xt_ : Box w14 (w.heap.size + 1) #[.int .i64 tI0, .int .i64 tI1] 29 := ((xt.far (by omega)).alloc _).chg c14 (by omega); clear xt; have xt := xt_; clear xt_; have xr_ : Box w14 (w.heap.size + 1 + 1) #[.int .i64 0, .slice none 0 0, .slice none 0 0] 33 := ((xr.far (by omega)).alloc _).chg c14 (by omega); clear xr; have xr := xr_; clear xr_; have xq_ : Box w14 (w2.heap.size) #[.int .i64 d, .slice (some ⟨v1, v2, none⟩) zn zc, .slice qA qn qc] 33 := ((xq.setAt (i := 2) (v := .slice qA qn qc) (ds := #[.int .i64 d, .slice (some ⟨v1, v2, none⟩) zn zc, .slice qA qn qc]) (by simp)).alloc _).chg c14 (by omega); clear xq; have xq := xq_; clear xq_; have xg_ : Box w14 (w9.heap.size) #[.int .i64 4, .int .i64 (m : Int), .int .i64 (j : Int)] 74 := ((xg.far (by omega)).alloc _).chg c14 (by omega); clear xg; have xg := xg_; clear xg_; obtain ⟨kxq_0, kxq_1, kxq_2, gxq_0, gxq_1, gxq_2⟩ := xq.three; have yxq := xq.lt; obtain ⟨kxc_0, kxc_1, gxc_0, gxc_1⟩ := xc.two; have yxc := xc.lt))
       rw [← hT2.out] at rt
       rw [hX.out] at rz
       rw [← hZ2.out] at rz
       go_wp2
       go_roundw
       case rel => exact ⟨k + 1, _, _, _, _, _, _, _, _, _, _, by omega, by go_num, (rz.setBox (by omega)), (rt.setBox (by omega)), by omega, by omega, by omega, (xc.far (by omega)), (xt.far (by omega)), (xr.far (by omega)), (xq.setAt (i := 1) (v := .slice yA yn yc) (ds := #[.int .i64 d, .slice yA yn yc, .slice qA qn qc]) (by simp)), by repeat (with_reducible (first | assumption | exact Below.refl _ _ | refine Below.alloc ?_ (by first | omega | (simp; done) | (simp; omega)) _ | refine Below.setCell ?_ (by first | omega | (simp; done) | (simp; omega)) _ | refine Below.drew ?_ | refine below_drewN ?_ _))⟩
       case measure => simp [intOf]; omega
      ·rw [hgt] at d0 d1 d2
       dsimp only at d0 d1 d2
       have hG := Lib.hid hgt
       clear hgt
       have e0 : w9.cell? ⟨g, o + k * 3, none⟩ = some (.int .i64 5) := (cellB hg d0)
       have e0_l : g < w9.heap.size := by omega
       have e1 : w9.cell? ⟨g, o + k * 3 + 1, none⟩ = some (.int .i64 (m : Int)) := (cellB hg d1)
       have e1_l : g < w9.heap.size := by omega
       have e2 : w9.cell? ⟨g, o + k * 3 + 2, none⟩ = some (.int .i64 0) := (cellB hg d2)
       have e2_l : g < w9.heap.size := by omega
       obtain ⟨v1, v2, rfl⟩ := rz.some (by rw [hgl.out]; omega)
       have hom := OwnL.cellAt rz m (by rw [hgl.out]; exact hmb)
       have v1l : v1 < w9.heap.size := World.block_lt_of_cell? _ _ hom
       have hzbm : m < zn := by omega
       obtain ⟨cxc_0, cxc_1, fxc_0, fxc_1⟩ := xc.two
       have l_xc_0 : w.heap.size < w9.heap.size := by omega
       have l_xc_1 : w.heap.size < w9.heap.size + 1 := by omega
       go_wp2_with fail
       clear cxc_0 cxc_1 fxc_0 fxc_1 l_xc_0 l_xc_1
       obtain ⟨cxq_0, cxq_1, cxq_2, fxq_0, fxq_1, fxq_2⟩ := xq.three
       have l_xq_0 : w2.heap.size < w9.heap.size := by omega
       have l_xq_1 : w2.heap.size < w9.heap.size + 1 := by omega
       go_wp2_with fail
       clear cxq_0 cxq_1 cxq_2 fxq_0 fxq_1 fxq_2 l_xq_0 l_xq_1
       generalize hw10 : World.alloc _ _ = w10
       have z10 : w9.heap.size + 1 ≤ w10.heap.size := by rw [← hw10]; simp
       have B10 : Below w.heap.size w w10 := by rw [← hw10]; repeat (with_reducible (first | assumption | exact Below.refl _ _ | refine Below.alloc ?_ (by first | omega | (simp; done) | (simp; omega)) _ | refine Below.setCell ?_ (by first | omega | (simp; done) | (simp; omega)) _ | refine Below.drew ?_ | refine below_drewN ?_ _))
       have hK : ∀ k, k < w9.heap.size → w10.heap[k]? = w9.heap[k]? := by
        intro k hk; rw [← hw10]
        repeat (first | rfl | refine (Below.heap_alloc _ _ _ (by first | omega | (simp; omega))).trans ?_)
       have rz_ := rz.keepBlock (w' := w10) (by omega) (fun k h1 h2 => hK k  (by have := rz.2.1; omega))
       clear rz; have rz := rz_; clear rz_
       have rt_ := rt.keepBlock (w' := w10) (by omega) (fun k h1 h2 => hK k  (by have := rt.2.1; omega))
       clear rt; have rt := rt_; clear rt_
       have xc_ : Box w10 (w.heap.size) #[.slice (some ⟨g, o, none⟩) cn0 cc0, (.slice cA1 cn1 cc1)] 27 := (by rw [← hw10]; exact (xc.alloc _))
       clear xc; have xc := xc_; clear xc_
       have xt_ : Box w10 (w.heap.size + 1) #[.int .i64 tI0, .int .i64 tI1] 29 := (by rw [← hw10]; exact (xt.alloc _))
       clear xt; have xt := xt_; clear xt_
       have xr_ : Box w10 (w.heap.size + 1 + 1) #[.int .i64 0, .slice none 0 0, .slice none 0 0] 33 := (by rw [← hw10]; exact (xr.alloc _))
       clear xr; have xr := xr_; clear xr_
       have xq_ : Box w10 (w2.heap.size) #[.int .i64 d, .slice (some ⟨v1, v2, none⟩) zn zc, .slice tA tn tc] 33 := (by rw [← hw10]; exact (xq.alloc _))
       clear xq; have xq := xq_; clear xq_
       have xg_ : Box w10 (w9.heap.size) #[.int .i64 5, .int .i64 (m : Int), .int .i64 0] 74 := (by rw [← hw10]; exact (Box.new (g := w9.heap.size) _ #[.int .i64 5, .int .i64 (m : Int), .int .i64 0] 74 (by simp)))
       have xg := xg_; clear xg_
       clear hw10 hK
       refine wp_region_held_drew (S := fun W => W.cell? ⟨w2.heap.size, 0, none⟩ = some (.int .i64 d) ∧ W.cell? ⟨w2.heap.size, 1, none⟩ = some (.slice (some ⟨v1, v2, none⟩) zn zc) ∧ W.cell? ⟨w2.heap.size, 2, none⟩ = some (.slice tA tn tc) ∧ W.cell? ⟨w9.heap.size, 0, none⟩ = some (.int .i64 5) ∧ W.cell? ⟨w9.heap.size, 1, none⟩ = some (.int .i64 (m : Int)) ∧ W.cell? ⟨w9.heap.size, 2, none⟩ = some (.int .i64 0) ∧ W.cell? ⟨v1, v2 + m, none⟩ = some (.int .i64 (nth (gZs tI0 tI1 d cL0 k) m))) (by kernel_rfl) ⟨xq.drew.three.1, xq.drew.three.2.1, xq.drew.three.2.2.1, xg.drew.three.1, xg.drew.three.2.1, xg.drew.three.2.2.1, (OwnL.cellAt (rz.drew) m (by rw [hgl.out]; exact hmb))⟩ (fun hS => ?_)
       (refine tk 0 hS ?_; (try simp only [Act.put, layA, layB, layC]))
       (refine tk 1 hS ?_; (try simp only [Act.put, layA, layB, layC]))
       (refine tk 2 hS ?_; (try simp only [Act.put, layA, layB, layC]))
       (refine tk 3 hS ?_; (try simp only [Act.put, layA, layB, layC]))
       (refine tk 4 hS ?_; (try simp only [Act.put, layA, layB, layC]))
       (refine tk 5 hS ?_; (try simp only [Act.put, layA, layB, layC]))
       (refine tk 6 hS ?_; (try simp only [Act.put, layA, layB, layC]))
       (refine tk 7 hS ?_; (try simp only [Act.put, layA, layB, layC]))
       (refine tk 8 hS ?_; (try simp only [Act.put, layA, layB, layC]))
       (refine tk 9 hS ?_; (try simp only [Act.put, layA, layB, layC]))
       clear hS
       refine wpAnyH_done (by kernel_rfl) ?_ _
       generalize hw11 : World.drew _ = w11
       have z11 : w10.heap.size ≤ w11.heap.size := by rw [← hw11]; simp [size_drew]
       have B11 : Below w.heap.size w w11 := by rw [← hw11]; repeat (with_reducible (first | assumption | exact Below.refl _ _ | refine Below.alloc ?_ (by first | omega | (simp; done) | (simp; omega)) _ | refine Below.setCell ?_ (by first | omega | (simp; done) | (simp; omega)) _ | refine Below.drew ?_ | refine below_drewN ?_ _))
       have hK : ∀ k, k < w10.heap.size → w11.heap[k]? = w10.heap[k]? := by
        intro k hk; rw [← hw11]
        repeat (first | rfl | refine (Below.heap_alloc _ _ _ (by first | omega | (simp; omega))).trans ?_)
       have rz_ := rz.keepBlock (w' := w11) (by omega) (fun k h1 h2 => hK k  (by have := rz.2.1; omega))
       clear rz; have rz := rz_; clear rz_
       have rt_ := rt.keepBlock (w' := w11) (by omega) (fun k h1 h2 => hK k  (by have := rt.2.1; omega))
       clear rt; have rt := rt_; clear rt_
       have xc_ : Box w11 (w.heap.size) #[.slice (some ⟨g, o, none⟩) cn0 cc0, (.slice cA1 cn1 cc1)] 27 := (by rw [← hw11]; exact xc)
       clear xc; have xc := xc_; clear xc_
       have xt_ : Box w11 (w.heap.size + 1) #[.int .i64 tI0, .int .i64 tI1] 29 := (by rw [← hw11]; exact xt)
       clear xt; have xt := xt_; clear xt_
       have xr_ : Box w11 (w.heap.size + 1 + 1) #[.int .i64 0, .slice none 0 0, .slice none 0 0] 33 := (by rw [← hw11]; exact xr)
       clear xr; have xr := xr_; clear xr_
       have xq_ : Box w11 (w2.heap.size) #[.int .i64 d, .slice (some ⟨v1, v2, none⟩) zn zc, .slice tA tn tc] 33 := (by rw [← hw11]; exact xq)
       clear xq; have xq := xq_; clear xq_
       have xg_ : Box w11 (w9.heap.size) #[.int .i64 5, .int .i64 (m : Int), .int .i64 0] 74 := (by rw [← hw11]; exact xg)
       clear xg; have xg := xg_; clear xg_
       clear hw11 hK
       have hT2 := Lib.hid (show gTs tI0 tI1 d cL0 (k + 1) = gTs tI0 tI1 d cL0 k by rw [gTs, hG.out, if_neg (by show ¬ (5 : Int) = 4; decide), List.append_nil])
       have hZ2 := Lib.hid (show gZs tI0 tI1 d cL0 (k + 1) = gZs tI0 tI1 d cL0 k ++ [xo (nth (gZs tI0 tI1 d cL0 k) m) d] by rw [gZs, zNew, hG.out]; rfl)
       obtain ⟨cxq_0, cxq_1, cxq_2, fxq_0, fxq_1, fxq_2⟩ := xq.three
       have l_xq_0 : w2.heap.size < w11.heap.size := by omega
       obtain ⟨cxc_0, cxc_1, fxc_0, fxc_1⟩ := xc.two
       have l_xc_0 : w.heap.size < w11.heap.size := by omega
       go_wp2_with ((at_builtin; go_must (refine append_D rfl _ _ rfl rfl (rz.alloc _) rfl (Ints.new (g := w11.heap.size) _ [xo (nth (gZs tI0 tI1 d cL0 k) m) d] 3 (by simp) rfl) (by have := hgl.out; omega) ?_); intro yA yn yc ylo yhi w12 rz_ drz c12; have z12 := c12.size; (try simp only [World.size_alloc, World.size_setCell, size_drew] at z12 drz); have B12 : Below w.heap.size w w12 := Below.trans (b := _) (by repeat (with_reducible (first | assumption | exact Below.refl _ _ | refine Below.alloc ?_ (by first | omega | (simp; done) | (simp; omega)) _ | refine Below.setCell ?_ (by first | omega | (simp; done) | (simp; omega)) _ | refine Below.drew ?_ | refine below_drewN ?_ _))) (c12.below (by omega) (by first | omega | (simp [size_drew]; done) | (simp [size_drew]; omega))); clear rz; have rz := rz_; clear rz_; have rt_ := (rt.alloc _).away c12 (by omega); clear rt; have rt := rt_; clear rt_; have xc_ : Box w12 (w.heap.size) #[.slice (some ⟨g, o, none⟩) cn0 cc0, (.slice cA1 cn1 cc1)] 27 := (xc.alloc _).chg c12 (by omega); clear xc; have xc := xc_; clear xc_; have xt_ : Box w12 (w.heap.size + 1) #[.int .i64 tI0, .int .i64 tI1] 29 := (xt.alloc _).chg c12 (by omega); clear xt; have xt := xt_; clear xt_; have xr_ : Box w12 (w.heap.size + 1 + 1) #[.int .i64 0, .slice none 0 0, .slice none 0 0] 33 := (xr.alloc _).chg c12 (by omega); clear xr; have xr := xr_; clear xr_; have xq_ : Box w12 (w2.heap.size) #[.int .i64 d, .slice (some ⟨v1, v2, none⟩) zn zc, .slice tA tn tc] 33 := (xq.alloc _).chg c12 (by omega); clear xq; have xq := xq_; clear xq_; have xg_ : Box w12 (w9.heap.size) #[.int .i64 5, .int .i64 (m : Int), .int .i64 0] 74 := (xg.alloc _).chg c12 (by omega); clear xg; have xg := xg_; clear xg_; obtain ⟨kxq_0, kxq_1, kxq_2, gxq_0, gxq_1, gxq_2⟩ := xq.three; have yxq := xq.lt))
       rw [← hZ2.out] at rz
       rw [← hT2.out] at rt
       go_wp2
       go_roundw
       case rel => exact ⟨k + 1, _, _, _, _, _, _, _, _, _, _, by omega, by go_num, (rz.setBox (by omega)), (rt.setBox (by omega)), by omega, by omega, by omega, (xc.far (by omega)), (xt.far (by omega)), (xr.far (by omega)), (xq.setAt (i := 1) (v := .slice yA yn yc) (ds := #[.int .i64 d, .slice yA yn yc, .slice tA tn tc]) (by simp)), by repeat (with_reducible (first | assumption | exact Below.refl _ _ | refine Below.alloc ?_ (by first | omega | (simp; done) | (simp; omega)) _ | refine Below.setCell ?_ (by first | omega | (simp; done) | (simp; omega)) _ | refine Below.drew ?_ | refine below_drewN ?_ _))⟩
       case measure => simp [intOf]; omega
     ·have hkn : k = cn0 := by omega
      obtain ⟨cxc_0, cxc_1, fxc_0, fxc_1⟩ := xc.two
      have l_xc_0 : w.heap.size < w9.heap.size := by omega
      obtain ⟨cxq_0, cxq_1, cxq_2, fxq_0, fxq_1, fxq_2⟩ := xq.three
      have l_xq_0 : w2.heap.size < w9.heap.size := by omega
      obtain ⟨cxr_0, cxr_1, cxr_2, fxr_0, fxr_1, fxr_2⟩ := xr.three
      have l_xr_0 : w.heap.size + 1 + 1 < w9.heap.size := by omega
      go_wp2
      refine bodyPost_ret (v := .tuple #[.agg #[.int .i64 d, .slice zA zn zc, .slice tA tn tc], .bool true]) (by simp [results, Try.results24, go_sem, cxc_0, cxc_1, fxc_0, fxc_1, l_xc_0, cxq_0, cxq_1, cxq_2, fxq_0, fxq_1, fxq_2, l_xq_0, cxr_0, cxr_1, cxr_2, fxr_0, fxr_1, fxr_2, l_xr_0]) rfl ⟨zA, zn, zc, tA, tn, tc, by rw [garD_yes HO2.out, HO2.out, hde.out], ?_, ?_⟩
      ·have R := OwnL.two (B := w.heap.size + 1 + 1 + 1) rz rt hdj (by omega) (by omega)
       simp only [List.cons_append, List.nil_append] at R
       rw [garZ_yes HO2.out, garT_yes HO2.out, hde.out, cL0l.out, ← hkn]
       exact OwnL.mono (((R.setBox (by omega)).setBox (by omega)).setBox (by omega)) (by omega) (by first | omega | (simp [size_drew]; done) | (simp [size_drew]; omega)) (Nat.le_refl _)
      ·repeat (with_reducible (first | assumption | exact Below.refl _ _ | refine Below.alloc ?_ (by first | omega | (simp; done) | (simp; omega)) _ | refine Below.setCell ?_ (by first | omega | (simp; done) | (simp; omega)) _ | refine Below.drew ?_ | refine below_drewN ?_ _))
end Go.Proofs.Ytodnahpegecpiaa

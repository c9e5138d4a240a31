/- Contracts of PublicOf. Printed by mac2.py. -/
import Derived.Test.YtodnahpegecpiaaGMath
import Derived.Test.YtodnahpegecpiaaRaC
import Derived.Test.YtodnahpegecpiaaAppend
namespace Go.Proofs.Ytodnahpegecpiaa
set_option linter.unusedSimpArgs false
set_option linter.unusedVariables false
open Go.RowKit
theorem OwnL.three {w : World} {lo hi lo1 hi1 lo2 hi2 B : Nat} {p q r : Value × Dat} (h : OwnL w lo hi [p]) (k : OwnL w lo1 hi1 [q]) (m : OwnL w lo2 hi2 [r]) (d1 : hi ≤ lo1 ∨ hi1 ≤ lo) (d2 : hi ≤ lo2 ∨ hi2 ≤ lo) (d3 : hi1 ≤ lo2 ∨ hi2 ≤ lo1) (b1 : B ≤ lo) (b2 : B ≤ lo1) (b3 : B ≤ lo2) : OwnL w B w.heap.size [p, q, r] := by
 have t1 := OwnL.two (B := B) h k d1 b1 b2
 have t2 := OwnL.two (B := B) h m d2 b1 b3
 have t3 := OwnL.two (B := B) k m d3 b2 b3
 refine ⟨t1.1, Nat.le_refl _, fun x hx => ?_, ?_⟩
 ·simp at hx
  rcases hx with rfl | rfl | rfl
  ·exact t1.2.2.1 _ (by simp)
  ·exact t3.2.2.1 _ (by simp)
  ·exact t3.2.2.1 _ (by simp)
 ·have a1 := t1.2.2.2
  have a2 := t2.2.2.2
  have a3 := t3.2.2.2
  simp at a1 a2 a3 ⊢
  exact ⟨⟨a1, a2⟩, a3⟩
def pdF (o zs : List Int) (k : Nat) : Int := bits .and .i64 (nth zs (nth o k).toNat) 1
def puT (l : List (Int × Int × Int)) (o : List Int) (d : Int) (zs ts : List Int) : List Int := if gbOk l o d zs ts then ts else []
def puC (l : List (Int × Int × Int)) (o : List Int) (d : Int) (zs ts : List Int) : List Int := if gbOk l o d zs ts then cstL d zs l l.length else []
def puD (l : List (Int × Int × Int)) (o : List Int) (d : Int) (zs ts : List Int) : List Int := if gbOk l o d zs ts then genL (pdF o zs) o.length else []
section
variable {l : List (Int × Int × Int)} {o zs ts : List Int} {d : Int}
theorem puT_yes (h : gbOk l o d zs ts = true) : puT l o d zs ts = ts := by simp [puT, h]
theorem puC_yes (h : gbOk l o d zs ts = true) : puC l o d zs ts = cstL d zs l l.length := by simp [puC, h]
theorem puD_yes (h : gbOk l o d zs ts = true) : puD l o d zs ts = genL (pdF o zs) o.length := by simp [puD, h]
theorem puT_no (h : gbOk l o d zs ts = false) : puT l o d zs ts = [] := by simp [puT, h]
theorem puC_no (h : gbOk l o d zs ts = false) : puC l o d zs ts = [] := by simp [puC, h]
theorem puD_no (h : gbOk l o d zs ts = false) : puD l o d zs ts = [] := by simp [puD, h]
theorem gb_circ (h : gbOk l o d zs ts = true) : circOk l o = true := (and_true_of (and_true_of (and_true_of (and_true_of h).1).1).1).1
theorem gb_zs (h : gbOk l o d zs ts = true) : zs.length = l.length ∧ allLab zs = true := by
 have h1 := (and_true_of (show (allLab zs && ((zs.length : Int) == (l.length : Int))) = true from (and_true_of (and_true_of h).1).2))
 exact ⟨by have := h1.2; simp at this; omega, h1.1⟩
theorem gb_ts (h : gbOk l o d zs ts = true) : ts.length = 2 * countG l 4 ∧ allLab ts = true := by
 have h1 := (and_true_of (show (allLab ts && ((ts.length : Int) == 2 * ((countG l 4 : Nat) : Int))) = true from (and_true_of h).2))
 exact ⟨by have := h1.2; simp at this; omega, h1.1⟩
theorem gb_d (h : gbOk l o d zs ts = true) : lab d = true := (and_true_of (and_true_of (and_true_of (and_true_of h).1).1).1).2
theorem gb_odd (h : gbOk l o d zs ts = true) : bits .and .i64 d 1 = 1 := by
 have := (and_true_of (and_true_of (and_true_of h).1).1).2
 simpa using this
end
theorem puT_len (l : List (Int × Int × Int)) (o : List Int) (d : Int) (zs ts : List Int) : (puT l o d zs ts).length ≤ ts.length := by unfold puT; split <;> simp
theorem puC_len (l : List (Int × Int × Int)) (o : List Int) (d : Int) (zs ts : List Int) : (puC l o d zs ts).length ≤ l.length := by
 unfold puC; split
 ·rw [cstL_len]; exact cntG_le _ _ _
 ·simp
theorem puD_len (l : List (Int × Int × Int)) (o : List Int) (d : Int) (zs ts : List Int) : (puD l o d zs ts).length ≤ o.length := by unfold puD; split <;> simp [genL_len]
theorem ints_L {A : Option Addr} {n c : Nat} {l : List Int} {w : World} (h : Ints w A n l) (hn : n ≤ 1099511627776) :
  Calls Try.prog 89 #[.slice A n c] w fun e w' => ∃ B m d, e = .returned (.slice B m d) ∧ OwnL w' w.heap.size w'.heap.size [(.slice B m d, .ints l)] ∧ Below w.heap.size w w' := by
 go_enter Try.func89, Try.ntmps89
 go_wp2_with (at_builtin; go_must (refine append_ints rfl _ _ rfl w.heap.size _ [] rfl (Own.empty (Nat.le_refl _) rfl) rfl (h.alloc _) (by simp; omega) (by simp) ?_); intro v w1 hown hg1 hat1)
 have hb : Below w.heap.size w w1 := ((Below.refl _ _).alloc (Nat.le_refl _) _).grown hg1 (by simp) (by intro k hk; cases hk; exact Nat.le_refl _)
 have h1 : Own w1 w.heap.size v l := by simpa using hown
 have hD : OwnD w1 w.heap.size v (.ints l) := by unfold OwnD; exact h1
 obtain ⟨B, m, d, rfl⟩ := hD.form
 go_wp2
 refine bodyPost_ret (v := .slice B m d) (by simp [results, Try.results89, go_sem]) rfl ⟨B, m, d, rfl, OwnL.one hD hb.size, hb⟩
set_option maxRecDepth 100000 in
set_option maxHeartbeats 10000000 in
theorem sPublicOf_L {cA0 : Option Addr} {cn0 cc0 : Nat} {cL0 : List (Int × Int × Int)} {cA1 : Option Addr} {cn1 cc1 : Nat} {cL1 : List Int} {gA1 : Option Addr} {gn1 gc1 : Nat} {gL1 : List Int} {gA2 : Option Addr} {gn2 gc2 : Nat} {gL2 : List Int} {w : World} (cH : RdL w [((.slice cA0 cn0 cc0), .gates cL0), ((.slice cA1 cn1 cc1), .ints cL1)]) (cL0n : cL0.length ≤ 1048576) (cL1n : cL1.length ≤ 1048576) (gI0 : Int) (gH : RdL w [((.slice gA1 gn1 gc1), .ints gL1), ((.slice gA2 gn2 gc2), .ints gL2)]) (gL1n : gL1.length ≤ 1048576) (gL2n : gL2.length ≤ 1048576) :
  Calls Try.prog 71 #[.agg #[(.slice cA0 cn0 cc0), (.slice cA1 cn1 cc1)], .agg #[.int .i64 gI0, (.slice gA1 gn1 gc1), (.slice gA2 gn2 gc2)]] w fun e w' => ∃ rA0 rn0 rc0 rA1 rn1 rc1 rA2 rn2 rc2, e = .returned (.tuple #[.agg #[.slice rA0 rn0 rc0, .slice rA1 rn1 rc1, .slice rA2 rn2 rc2], .bool (gbOk cL0 cL1 gI0 gL1 gL2)]) ∧ OwnL w' w.heap.size w'.heap.size [(.slice rA0 rn0 rc0, .ints (puT cL0 cL1 gI0 gL1 gL2)), (.slice rA1 rn1 rc1, .ints (puC cL0 cL1 gI0 gL1 gL2)), (.slice rA2 rn2 rc2, .ints (puD cL0 cL1 gI0 gL1 gL2))] ∧ Below w.heap.size w w' := by
 have cL0g : Gates w cA0 cn0 cL0 := RdG.toG (cH ((.slice cA0 cn0 cc0), .gates cL0) (by simp))
 have cL0l := Lib.hid cL0g.1
 have cL0m : cn0 ≤ 1048576 := by rw [← cL0l.out]; exact cL0n
 have cL1i : Ints w cA1 cn1 cL1 := Rd.toInts (cH ((.slice cA1 cn1 cc1), .ints cL1) (by simp))
 have cL1l := Lib.hid cL1i.len
 have cL1m : cn1 ≤ 1048576 := by rw [← cL1l.out]; exact cL1n
 have gL1i : Ints w gA1 gn1 gL1 := Rd.toInts (gH ((.slice gA1 gn1 gc1), .ints gL1) (by simp))
 have gL1l := Lib.hid gL1i.len
 have gL1m : gn1 ≤ 1048576 := by rw [← gL1l.out]; exact gL1n
 have gL2i : Ints w gA2 gn2 gL2 := Rd.toInts (gH ((.slice gA2 gn2 gc2), .ints gL2) (by simp))
 have gL2l := Lib.hid gL2i.len
 have gL2m : gn2 ≤ 1048576 := by rw [← gL2l.out]; exact gL2n
 cases k1 : gbOk cL0 cL1 gI0 gL1 gL2 with
 | false =>
  go_enter Try.func71, Try.ntmps71
  go_wp2_with fail
  refine (sGarbledOk_L (RdL.b cH) cL0n cL1n gI0 (RdL.b gH) gL1n gL2n).mono ?_
  rintro e w1 ⟨rfl, b1⟩
  have z1 := b1.size
  try simp only [World.size_alloc, World.size_setCell, size_drew] at z1
  have B1 : Below w.heap.size w w1 := Below.t b1
  have xc_ : Box w1 (w.heap.size) #[(.slice cA0 cn0 cc0), (.slice cA1 cn1 cc1)] 27 := (((Box.new (g := w.heap.size) _ #[(.slice cA0 cn0 cc0), (.slice cA1 cn1 cc1)] 27 (by simp)).alloc _).alloc _).below b1 (by first | omega | (simp [size_drew]; done) | (simp [size_drew]; omega))
  have xc := xc_; clear xc_
  have xg_ : Box w1 (w.heap.size + 1) #[.int .i64 gI0, (.slice gA1 gn1 gc1), (.slice gA2 gn2 gc2)] 33 := ((Box.new (g := w.heap.size + 1) _ #[.int .i64 gI0, (.slice gA1 gn1 gc1), (.slice gA2 gn2 gc2)] 33 (by simp)).alloc _).below b1 (by first | omega | (simp [size_drew]; done) | (simp [size_drew]; omega))
  have xg := xg_; clear xg_
  have xr_ : Box w1 (w.heap.size + 1 + 1) #[.slice none 0 0, .slice none 0 0, .slice none 0 0] 37 := (Box.new (g := w.heap.size + 1 + 1) _ #[.slice none 0 0, .slice none 0 0, .slice none 0 0] 37 (by simp)).below b1 (by first | omega | (simp [size_drew]; done) | (simp [size_drew]; omega))
  have xr := xr_; clear xr_
  rw [k1]
  obtain ⟨cxr_0, cxr_1, cxr_2, fxr_0, fxr_1, fxr_2⟩ := xr.three
  have l_xr_0 : w.heap.size + 1 + 1 < w1.heap.size := by omega
  go_wp2
  refine bodyPost_ret (v := .tuple #[.agg #[.slice none 0 0, .slice none 0 0, .slice none 0 0], .bool false]) (by simp [results, Try.results71, go_sem, cxr_0, cxr_1, cxr_2, fxr_0, fxr_1, fxr_2, l_xr_0]) rfl ⟨none, 0, 0, none, 0, 0, none, 0, 0, rfl, ?_, ?_⟩
  ·rw [puT_no k1, puC_no k1, puD_no k1]; exact OwnL.nones _ (by simp) (by first | omega | (simp [size_drew]; done) | (simp [size_drew]; omega))
  ·repeat (with_reducible (first | assumption | exact Below.refl _ _ | refine Below.alloc ?_ (by first | omega | (simp; done) | (simp; omega)) _ | refine Below.setCell ?_ (by first | omega | (simp; done) | (simp; omega)) _ | refine Below.drew ?_ | refine below_drewN ?_ _))
 | true =>
  go_enter Try.func71, Try.ntmps71
  go_wp2_with fail
  refine (sGarbledOk_L (RdL.b cH) cL0n cL1n gI0 (RdL.b gH) gL1n gL2n).mono ?_
  rintro e w1 ⟨rfl, b1⟩
  have z1 := b1.size
  try simp only [World.size_alloc, World.size_setCell, size_drew] at z1
  have B1 : Below w.heap.size w w1 := Below.t b1
  have xc_ : Box w1 (w.heap.size) #[(.slice cA0 cn0 cc0), (.slice cA1 cn1 cc1)] 27 := (((Box.new (g := w.heap.size) _ #[(.slice cA0 cn0 cc0), (.slice cA1 cn1 cc1)] 27 (by simp)).alloc _).alloc _).below b1 (by first | omega | (simp [size_drew]; done) | (simp [size_drew]; omega))
  have xc := xc_; clear xc_
  have xg_ : Box w1 (w.heap.size + 1) #[.int .i64 gI0, (.slice gA1 gn1 gc1), (.slice gA2 gn2 gc2)] 33 := ((Box.new (g := w.heap.size + 1) _ #[.int .i64 gI0, (.slice gA1 gn1 gc1), (.slice gA2 gn2 gc2)] 33 (by simp)).alloc _).below b1 (by first | omega | (simp [size_drew]; done) | (simp [size_drew]; omega))
  have xg := xg_; clear xg_
  have xr_ : Box w1 (w.heap.size + 1 + 1) #[.slice none 0 0, .slice none 0 0, .slice none 0 0] 37 := (Box.new (g := w.heap.size + 1 + 1) _ #[.slice none 0 0, .slice none 0 0, .slice none 0 0] 37 (by simp)).below b1 (by first | omega | (simp [size_drew]; done) | (simp [size_drew]; omega))
  have xr := xr_; clear xr_
  rw [k1]
  have HO2 := Lib.hid k1
  have HK := Lib.hid (gb_circ k1)
  have HG := Lib.hid cL0g
  have HO := Lib.hid cL1i
  have HZ := Lib.hid gL1i
  have hzn := Lib.hid (show gn1 = cn0 by have := (gb_zs k1).1; have := gL1l.out; have := cL0l.out; omega)
  clear k1
  obtain ⟨cxg_0, cxg_1, cxg_2, fxg_0, fxg_1, fxg_2⟩ := xg.three
  have l_xg_0 : w.heap.size + 1 < w1.heap.size := by omega
  obtain ⟨cxc_0, cxc_1, fxc_0, fxc_1⟩ := xc.two
  have l_xc_0 : w.heap.size < w1.heap.size := by omega
  go_wp2_with (at_builtin; go_must (refine append_D rfl _ _ rfl rfl (OwnL.lit0 (Box.new (g := w1.heap.size) _ #[] 3 (by simp))) rfl (Ints.alloc gL2i.b _) (by simp; omega) ?_); intro tA tn tc tlo thi w2 rt drt c2; have z2 := c2.size; (try simp only [World.size_alloc, World.size_setCell, size_drew] at z2 drt); have B2 : Below w.heap.size w w2 := Below.trans (b := _) (by repeat (with_reducible (first | assumption | exact Below.refl _ _ | refine Below.alloc ?_ (by first | omega | (simp; done) | (simp; omega)) _ | refine Below.setCell ?_ (by first | omega | (simp; done) | (simp; omega)) _ | refine Below.drew ?_ | refine below_drewN ?_ _))) (c2.below (by omega) (by first | omega | (simp [size_drew]; done) | (simp [size_drew]; omega))); simp only [List.nil_append] at rt)
  have hr1 := rt.1
  have hr2 := rt.2.1
  have xc_ : Box w2 (w.heap.size) #[(.slice cA0 cn0 cc0), (.slice cA1 cn1 cc1)] 27 := (xc.alloc _).chg c2 (by omega)
  clear xc; have xc := xc_; clear xc_
  have xg_ : Box w2 (w.heap.size + 1) #[.int .i64 gI0, (.slice gA1 gn1 gc1), (.slice gA2 gn2 gc2)] 33 := (xg.alloc _).chg c2 (by omega)
  clear xg; have xg := xg_; clear xg_
  have xr_ : Box w2 (w.heap.size + 1 + 1) #[.slice none 0 0, .slice none 0 0, .slice none 0 0] 37 := (xr.alloc _).chg c2 (by omega)
  clear xr; have xr := xr_; clear xr_
  obtain ⟨cxc_0, cxc_1, fxc_0, fxc_1⟩ := xc.two
  have l_xc_0 : w.heap.size < w2.heap.size := by omega
  have l_xc_1 : w.heap.size < w2.heap.size + 1 := by omega
  go_wp2_with fail
  clear cxc_0 cxc_1 fxc_0 fxc_1
  generalize hw3 : World.alloc _ _ = w3
  have z3 : w2.heap.size + 1 ≤ w3.heap.size := by rw [← hw3]; simp
  have B3 : Below w.heap.size w w3 := by rw [← hw3]; repeat (with_reducible (first | assumption | exact Below.refl _ _ | refine Below.alloc ?_ (by first | omega | (simp; done) | (simp; omega)) _ | refine Below.setCell ?_ (by first | omega | (simp; done) | (simp; omega)) _ | refine Below.drew ?_ | refine below_drewN ?_ _))
  have hK : ∀ k, k < w2.heap.size → w3.heap[k]? = w2.heap[k]? := by
   intro k hk; rw [← hw3]
   repeat (first | rfl | refine (Below.heap_alloc _ _ _ (by first | omega | (simp; omega))).trans ?_)
  have rt_ := rt.keepBlock (w' := w3) (by omega) (fun k h1 h2 => hK k  (by have := rt.2.1; omega))
  clear rt; have rt := rt_; clear rt_
  have xc_ : Box w3 (w.heap.size) #[(.slice cA0 cn0 cc0), (.slice cA1 cn1 cc1)] 27 := (by rw [← hw3]; exact (xc.alloc _))
  clear xc; have xc := xc_; clear xc_
  have xg_ : Box w3 (w.heap.size + 1) #[.int .i64 gI0, (.slice gA1 gn1 gc1), (.slice gA2 gn2 gc2)] 33 := (by rw [← hw3]; exact (xg.alloc _))
  clear xg; have xg := xg_; clear xg_
  have xr_ : Box w3 (w.heap.size + 1 + 1) #[.slice none 0 0, .slice none 0 0, .slice none 0 0] 37 := (by rw [← hw3]; exact (xr.alloc _))
  clear xr; have xr := xr_; clear xr_
  have xq_ : Box w3 (w2.heap.size) #[.slice tA tn tc, .slice none 0 0, .slice none 0 0] 37 := (by rw [← hw3]; exact (Box.new (g := w2.heap.size) _ #[.slice tA tn tc, .slice none 0 0, .slice none 0 0] 37 (by simp)))
  have xq := xq_; clear xq_
  clear hw3 hK
  have zq := xq.lt
  have htr1 := rt.1
  have htr2 := rt.2.1
  have htlq : w.heap.size + 1 + 1 + 1 ≤ tlo ∧ thi ≤ w2.heap.size := by constructor <;> omega
  obtain ⟨htq1, htq2⟩ := htlq
  go_loopw [7] (fun i wr => ∃ (k : Nat) (A1 : Option Addr) (n1 c1 l1 h1 : Nat), k ≤ cn0 ∧ i = .int .i64 k ∧ Hid (OwnL wr tlo thi [(.slice tA tn tc, .ints gL2)]) ∧ Hid (OwnL wr l1 h1 [(.slice A1 n1 c1, .ints (cstL gI0 gL1 cL0 k))]) ∧ (thi ≤ l1 ∨ h1 ≤ tlo) ∧ w2.heap.size < l1 ∧ Hid (Box wr (w.heap.size) #[(.slice cA0 cn0 cc0), (.slice cA1 cn1 cc1)] 27) ∧ Hid (Box wr (w.heap.size + 1) #[.int .i64 gI0, (.slice gA1 gn1 gc1), (.slice gA2 gn2 gc2)] 33) ∧ Hid (Box wr (w.heap.size + 1 + 1) #[.slice none 0 0, .slice none 0 0, .slice none 0 0] 37) ∧ Hid (Box wr (w2.heap.size) #[.slice tA tn tc, .slice A1 n1 c1, .slice none 0 0] 37) ∧ Below w.heap.size w wr) (fun i wr => cn0 - (intOf i).toNat)
  case atStart => exact ⟨0, none, 0, 0, _, _, by omega, rfl, rt, OwnL.nones (lo := w3.heap.size) [(.slice none 0 0, .ints [])] (by simp) (Nat.le_refl _), by omega, by omega, xc, xg, xr, xq, B3⟩
  case round =>
   obtain ⟨k, A1, n1, c1, l1, h1, hk, rfl, rt, rc, hd1, hl1, xc, xg, xr, xq, B9⟩ := hrel
   obtain ⟨w9, hw9⟩ : ∃ x, x = wr := ⟨wr, rfl⟩
   subst hw9
   have rt := rt.out
   have rc := rc.out
   have xc := xc.out
   have zb_xc := xc.lt
   have xg := xg.out
   have zb_xg := xg.lt
   have xr := xr.out
   have zb_xr := xr.lt
   have xq := xq.out
   have zb_xq := xq.lt
   have hcl := Lib.hid (cstL_len gI0 gL1 cL0 k)
   have z9 := B9.size
   have hc2 := cntG_le cL0 2 k
   have hr1 := rc.1
   have hr2 := rc.2.1
   by_cases hlt : k < cn0
   ·obtain ⟨g, o, rfl, hg, d0, d1, d2⟩ := (HG.out).at hlt
    change _ = some (Value.int .i64 (gAt cL0 k).1) at d0
    change _ = some (Value.int .i64 (gAt cL0 k).2.1) at d1
    change _ = some (Value.int .i64 (gAt cL0 k).2.2) at d2
    rcases gate_cases HK.out (k := k) (by rw [cL0l.out]; exact hlt) with ⟨m, hgt, hmb⟩ | ⟨m, hgt, hmb⟩ | ⟨m, j, hgt, hmb, hjb⟩ | ⟨m, j, hgt, hmb, hjb⟩ | ⟨m, hgt, hmb⟩
    ·rw [hgt] at d0 d1 d2
     dsimp only at d0 d1 d2
     have hG := Lib.hid hgt
     clear hgt
     have e0 : w9.cell? ⟨g, o + k * 3, none⟩ = some (.int .i64 1) := (cellB hg d0)
     have e0_l : g < w9.heap.size := by omega
     have e1 : w9.cell? ⟨g, o + k * 3 + 1, none⟩ = some (.int .i64 (m : Int)) := (cellB hg d1)
     have e1_l : g < w9.heap.size := by omega
     have e2 : w9.cell? ⟨g, o + k * 3 + 2, none⟩ = some (.int .i64 0) := (cellB hg d2)
     have e2_l : g < w9.heap.size := by omega
     have hC2 := Lib.hid (show cstL gI0 gL1 cL0 (k + 1) = cstL gI0 gL1 cL0 k by rw [cstL, hG.out, if_neg (by show ¬ (1 : Int) = 2; decide), List.append_nil])
     obtain ⟨cxc_0, cxc_1, fxc_0, fxc_1⟩ := xc.two
     have l_xc_0 : w.heap.size < w9.heap.size := by omega
     go_wp2
     rw [← hC2.out] at rc
     go_roundw
     case rel => exact ⟨k + 1, _, _, _, _, _, by omega, by go_num, rt, rc, by omega, by omega, xc, xg, xr, xq, by repeat (with_reducible (first | assumption | exact Below.refl _ _ | refine Below.alloc ?_ (by first | omega | (simp; done) | (simp; omega)) _ | refine Below.setCell ?_ (by first | omega | (simp; done) | (simp; omega)) _ | refine Below.drew ?_ | refine below_drewN ?_ _))⟩
     case measure => simp [intOf]; omega
    ·rw [hgt] at d0 d1 d2
     dsimp only at d0 d1 d2
     have hG := Lib.hid hgt
     clear hgt
     have e0 : w9.cell? ⟨g, o + k * 3, none⟩ = some (.int .i64 2) := (cellB hg d0)
     have e0_l : g < w9.heap.size := by omega
     have e1 : w9.cell? ⟨g, o + k * 3 + 1, none⟩ = some (.int .i64 (m : Int)) := (cellB hg d1)
     have e1_l : g < w9.heap.size := by omega
     have e2 : w9.cell? ⟨g, o + k * 3 + 2, none⟩ = some (.int .i64 0) := (cellB hg d2)
     have e2_l : g < w9.heap.size := by omega
     have hC2 := Lib.hid (show cstL gI0 gL1 cL0 (k + 1) = cstL gI0 gL1 cL0 k ++ [labelFor (nth gL1 k) gI0 (m : Int)] by rw [cstL, hG.out]; rfl)
     have hkz : k < gn1 := by have := hzn.out; omega
     obtain ⟨g3, g3o, rfl, g3h, hc⟩ := HZ.out.block (by omega)
     have hcz := hc k (by omega)
     clear hc
     obtain ⟨cxc_0, cxc_1, fxc_0, fxc_1⟩ := xc.two
     have l_xc_0 : w.heap.size < w9.heap.size := by omega
     go_wp2_with fail
     clear cxc_0 cxc_1 fxc_0 fxc_1 l_xc_0
     obtain ⟨cxg_0, cxg_1, cxg_2, fxg_0, fxg_1, fxg_2⟩ := xg.three
     have l_xg_0 : w.heap.size + 1 < w9.heap.size := by omega
     obtain ⟨cxc_0, cxc_1, fxc_0, fxc_1⟩ := xc.two
     have l_xc_0 : w.heap.size < w9.heap.size := by omega
     go_wp2_with fail
     clear cxg_0 cxg_1 cxg_2 fxg_0 fxg_1 fxg_2 l_xg_0 cxc_0 cxc_1 fxc_0 fxc_1 l_xc_0
     refine wp_region_held_drew (S := fun W => W.cell? ⟨w.heap.size + 1, 0, none⟩ = some (.int .i64 gI0) ∧ W.cell? ⟨w.heap.size + 1, 1, none⟩ = some (.slice (some ⟨g3, g3o, none⟩) gn1 gc1) ∧ W.cell? ⟨w.heap.size + 1, 2, none⟩ = some ((.slice gA2 gn2 gc2)) ∧ W.cell? ⟨w.heap.size, 0, none⟩ = some (.slice (some ⟨g, o, none⟩) cn0 cc0) ∧ W.cell? ⟨w.heap.size, 1, none⟩ = some ((.slice cA1 cn1 cc1)) ∧ W.cell? ⟨g3, g3o + k, none⟩ = some (.int .i64 (nth gL1 k)) ∧ W.cell? ⟨g, o + k * 3 + 1, none⟩ = some (.int .i64 (m : Int))) (by kernel_rfl) ⟨xg.drew.three.1, xg.drew.three.2.1, xg.drew.three.2.2.1, xc.drew.two.1, xc.drew.two.2.1, (cellB g3h hcz), (cellB hg d1)⟩ (fun hS => ?_)
     (refine tk 0 hS ?_; (try simp only [Act.put, layA, layB, layC]))
     (refine tk 2 hS ?_; (try simp only [Act.put, layA, layB, layC]))
     (refine tk 3 hS ?_; (try simp only [Act.put, layA, layB, layC]))
     (refine tk 4 hS ?_; (try simp only [Act.put, layA, layB, layC]))
     (refine tk 5 hS ?_; (try simp only [Act.put, layA, layB, layC]))
     (refine tk 6 hS ?_; (try simp only [Act.put, layA, layB, layC]))
     (refine tk 7 hS ?_; (try simp only [Act.put, layA, layB, layC]))
     (refine tk 8 hS ?_; (try simp only [Act.put, layA, layB, layC]))
     (refine tk 9 hS ?_; (try simp only [Act.put, layA, layB, layC]))
     (refine tk 10 hS ?_; (try simp only [Act.put, layA, layB, layC]))
     (refine tk 11 hS ?_; (try simp only [Act.put, layA, layB, layC]))
     (refine tk 12 hS ?_; (try simp only [Act.put, layA, layB, layC]))
     (refine tk 13 hS ?_; (try simp only [Act.put, layA, layB, layC]))
     (refine tk 14 hS ?_; (try simp only [Act.put, layA, layB, layC]))
     refine forkH (i := 1) (j := 15) (by simp only [List.getElem?_toArray, List.getElem?_cons_succ, List.getElem?_cons_zero] <;> rfl) (by simp only [List.getElem?_toArray, List.getElem?_cons_succ, List.getElem?_cons_zero] <;> rfl) (by kernel_rfl) (by rfl) (by rfl) ?_ ?_
     ·obtain ⟨cxq_0, cxq_1, cxq_2, fxq_0, fxq_1, fxq_2⟩ := xq.three
      have l_xq_0 : w2.heap.size < w9.heap.size := by omega
      refine valueH (by go_simp; (first | done | with_reducible rfl | exact ⟨rfl, rfl⟩)) hS (fun hS => ?_)
      clear cxq_0 cxq_1 cxq_2 fxq_0 fxq_1 fxq_2 l_xq_0
      (try simp only [Act.put, layA, layB, layC])
      refine on 15 ?_
      refine callH (by go_simp; (first | done | with_reducible rfl | exact ⟨rfl, rfl⟩)) ?_
      go_at_call 29
      refine (sLabelFor_any _ _ _ _).mono ?_
      rintro e w_ ⟨rfl, rfl⟩
      refine ⟨_, rfl, hS, fun hS => ?_⟩
      (try simp only [Act.put, layA, layB, layC])
      refine on 16 ?_
      refine valueH (by go_simp; (first | done | with_reducible rfl | exact ⟨rfl, rfl⟩)) ?_ (fun hS_ => ?_)
      ·exact ⟨(xg.alloc _).drew.three.1, (xg.alloc _).drew.three.2.1, (xg.alloc _).drew.three.2.2.1, (xc.alloc _).drew.two.1, (xc.alloc _).drew.two.2.1, (cellB g3h hcz), (cellB hg d1)⟩
      clear hS
      have hS := hS_
      clear hS_
      (try simp only [Act.put, layA, layB, layC])
      refine on 17 ?_
      refine appendH_L (.tmp 34) (.tmp 49) rfl rfl ((rc.alloc _).drew) rfl (Ints.new (g := w9.heap.size) _ [labelFor (nth gL1 k) gI0 (m : Int)] 3 (by simp) rfl).drew (by have := hcl.out; omega) ?_
      intro qA qn qc qlo qhi w10 rc_ drc c10
      have z10 := c10.size
      (try simp only [World.size_alloc, World.size_setCell, size_drew] at z10 drc)
      have B10 : Below w.heap.size w w10 := Below.trans (b := _) (by repeat (with_reducible (first | assumption | exact Below.refl _ _ | refine Below.alloc ?_ (by first | omega | (simp; done) | (simp; omega)) _ | refine Below.setCell ?_ (by first | omega | (simp; done) | (simp; omega)) _ | refine Below.drew ?_ | refine below_drewN ?_ _))) (c10.below (by omega) (by first | omega | (simp [size_drew]; done) | (simp [size_drew]; omega)))
      clear rc; have rc := rc_; clear rc_
      have rt_ := ((rt.alloc _).drew).away c10 (by omega)
      clear rt; have rt := rt_; clear rt_
      have xc_ : Box w10 (w.heap.size) #[.slice (some ⟨g, o, none⟩) cn0 cc0, (.slice cA1 cn1 cc1)] 27 := ((xc.alloc _).drew).chg c10 (by omega)
      clear xc; have xc := xc_; clear xc_
      have xg_ : Box w10 (w.heap.size + 1) #[.int .i64 gI0, .slice (some ⟨g3, g3o, none⟩) gn1 gc1, (.slice gA2 gn2 gc2)] 33 := ((xg.alloc _).drew).chg c10 (by omega)
      clear xg; have xg := xg_; clear xg_
      have xr_ : Box w10 (w.heap.size + 1 + 1) #[.slice none 0 0, .slice none 0 0, .slice none 0 0] 37 := ((xr.alloc _).drew).chg c10 (by omega)
      clear xr; have xr := xr_; clear xr_
      have xq_ : Box w10 (w2.heap.size) #[.slice tA tn tc, .slice A1 n1 c1, .slice none 0 0] 37 := ((xq.alloc _).drew).chg c10 (by omega)
      clear xq; have xq := xq_; clear xq_
      have xl_ : Box w10 (w9.heap.size) #[.int .i64 (labelFor (nth gL1 k) gI0 (m : Int))] 3 := ((Box.new (g := w9.heap.size) _ #[.int .i64 (labelFor (nth gL1 k) gI0 (m : Int))] 3 (by simp)).drew).chg c10 (by omega)
      have xl := xl_; clear xl_
      refine ⟨⟨xg.three.1, xg.three.2.1, xg.three.2.2.1, xc.two.1, xc.two.2.1, (cellB g3h hcz), (cellB hg d1)⟩, fun hS_ => ?_⟩
      clear hS; have hS := hS_; clear hS_
      (try simp only [Act.put, layA, layB, layC])
      (refine tk 18 hS ?_; (try simp only [Act.put, layA, layB, layC]))
      refine on 19 ?_
      obtain ⟨cxq_0, cxq_1, cxq_2, fxq_0, fxq_1, fxq_2⟩ := xq.three
      refine skipH (by go_simp; (first | done | with_reducible rfl | exact ⟨rfl, rfl⟩)) ?_ (fun hS_ => ?_)
      ·exact ⟨(xg.far (by omega)).three.1, (xg.far (by omega)).three.2.1, (xg.far (by omega)).three.2.2.1, (xc.far (by omega)).two.1, (xc.far (by omega)).two.2.1, (cellB g3h hcz), (cellB hg d1)⟩
      clear cxq_0 cxq_1 cxq_2 fxq_0 fxq_1 fxq_2
      clear hS
      have hS := hS_
      clear hS_
      (try simp only [Act.put, layA, layB, layC])
      clear hS
      refine wpAnyH_done (by kernel_rfl) ?_ _
      rw [← hC2.out] at rc
      go_wp2
      go_roundw
      case rel => exact ⟨k + 1, _, _, _, _, _, by omega, by go_num, (rt.setBox (by omega)), (rc.setBox (by omega)), by omega, by omega, (xc.far (by omega)), (xg.far (by omega)), (xr.far (by omega)), (xq.setAt (i := 1) (v := .slice qA qn qc) (ds := #[.slice tA tn tc, .slice qA qn qc, .slice none 0 0]) (by simp)), by repeat (with_reducible (first | assumption | exact Below.refl _ _ | refine Below.alloc ?_ (by first | omega | (simp; done) | (simp; omega)) _ | refine Below.setCell ?_ (by first | omega | (simp; done) | (simp; omega)) _ | refine Below.drew ?_ | refine below_drewN ?_ _))⟩
      case measure => simp [intOf]; omega
     ·refine callH (by go_simp; (first | done | with_reducible rfl | exact ⟨rfl, rfl⟩)) ?_
      go_at_call 29
      refine (sLabelFor_any _ _ _ _).mono ?_
      rintro e w_ ⟨rfl, rfl⟩
      refine ⟨_, rfl, hS, fun hS => ?_⟩
      (try simp only [Act.put, layA, layB, layC])
      refine forkH (i := 1) (j := 16) (by simp only [List.getElem?_toArray, List.getElem?_cons_succ, List.getElem?_cons_zero] <;> rfl) (by simp only [List.getElem?_toArray, List.getElem?_cons_succ, List.getElem?_cons_zero] <;> rfl) (by kernel_rfl) (by rfl) (by rfl) ?_ ?_
      ·obtain ⟨cxq_0, cxq_1, cxq_2, fxq_0, fxq_1, fxq_2⟩ := xq.three
       have l_xq_0 : w2.heap.size < w9.heap.size := by omega
       refine valueH (by go_simp; (first | done | with_reducible rfl | exact ⟨rfl, rfl⟩)) hS (fun hS => ?_)
       clear cxq_0 cxq_1 cxq_2 fxq_0 fxq_1 fxq_2 l_xq_0
       (try simp only [Act.put, layA, layB, layC])
       refine on 16 ?_
       refine valueH (by go_simp; (first | done | with_reducible rfl | exact ⟨rfl, rfl⟩)) ?_ (fun hS_ => ?_)
       ·exact ⟨(xg.alloc _).drew.three.1, (xg.alloc _).drew.three.2.1, (xg.alloc _).drew.three.2.2.1, (xc.alloc _).drew.two.1, (xc.alloc _).drew.two.2.1, (cellB g3h hcz), (cellB hg d1)⟩
       clear hS
       have hS := hS_
       clear hS_
       (try simp only [Act.put, layA, layB, layC])
       refine on 17 ?_
       refine appendH_L (.tmp 34) (.tmp 49) rfl rfl ((rc.alloc _).drew) rfl (Ints.new (g := w9.heap.size) _ [labelFor (nth gL1 k) gI0 (m : Int)] 3 (by simp) rfl).drew (by have := hcl.out; omega) ?_
       intro qA qn qc qlo qhi w10 rc_ drc c10
       have z10 := c10.size
       (try simp only [World.size_alloc, World.size_setCell, size_drew] at z10 drc)
       have B10 : Below w.heap.size w w10 := Below.trans (b := _) (by repeat (with_reducible (first | assumption | exact Below.refl _ _ | refine Below.alloc ?_ (by first | omega | (simp; done) | (simp; omega)) _ | refine Below.setCell ?_ (by first | omega | (simp; done) | (simp; omega)) _ | refine Below.drew ?_ | refine below_drewN ?_ _))) (c10.below (by omega) (by first | omega | (simp [size_drew]; done) | (simp [size_drew]; omega)))
       clear rc; have rc := rc_; clear rc_
       have rt_ := ((rt.alloc _).drew).away c10 (by omega)
       clear rt; have rt := rt_; clear rt_
       have xc_ : Box w10 (w.heap.size) #[.slice (some ⟨g, o, none⟩) cn0 cc0, (.slice cA1 cn1 cc1)] 27 := ((xc.alloc _).drew).chg c10 (by omega)
       clear xc; have xc := xc_; clear xc_
       have xg_ : Box w10 (w.heap.size + 1) #[.int .i64 gI0, .slice (some ⟨g3, g3o, none⟩) gn1 gc1, (.slice gA2 gn2 gc2)] 33 := ((xg.alloc _).drew).chg c10 (by omega)
       clear xg; have xg := xg_; clear xg_
       have xr_ : Box w10 (w.heap.size + 1 + 1) #[.slice none 0 0, .slice none 0 0, .slice none 0 0] 37 := ((xr.alloc _).drew).chg c10 (by omega)
       clear xr; have xr := xr_; clear xr_
       have xq_ : Box w10 (w2.heap.size) #[.slice tA tn tc, .slice A1 n1 c1, .slice none 0 0] 37 := ((xq.alloc _).drew).chg c10 (by omega)
       clear xq; have xq := xq_; clear xq_
       have xl_ : Box w10 (w9.heap.size) #[.int .i64 (labelFor (nth gL1 k) gI0 (m : Int))] 3 := ((Box.new (g := w9.heap.size) _ #[.int .i64 (labelFor (nth gL1 k) gI0 (m : Int))] 3 (by simp)).drew).chg c10 (by omega)
       have xl := xl_; clear xl_
       refine ⟨⟨xg.three.1, xg.three.2.1, xg.three.2.2.1, xc.two.1, xc.two.2.1, (cellB g3h hcz), (cellB hg d1)⟩, fun hS_ => ?_⟩
       clear hS; have hS := hS_; clear hS_
       (try simp only [Act.put, layA, layB, layC])
       (refine tk 18 hS ?_; (try simp only [Act.put, layA, layB, layC]))
       refine on 19 ?_
       obtain ⟨cxq_0, cxq_1, cxq_2, fxq_0, fxq_1, fxq_2⟩ := xq.three
       refine skipH (by go_simp; (first | done | with_reducible rfl | exact ⟨rfl, rfl⟩)) ?_ (fun hS_ => ?_)
       ·exact ⟨(xg.far (by omega)).three.1, (xg.far (by omega)).three.2.1, (xg.far (by omega)).three.2.2.1, (xc.far (by omega)).two.1, (xc.far (by omega)).two.2.1, (cellB g3h hcz), (cellB hg d1)⟩
       clear cxq_0 cxq_1 cxq_2 fxq_0 fxq_1 fxq_2
       clear hS
       have hS := hS_
       clear hS_
       (try simp only [Act.put, layA, layB, layC])
       clear hS
       refine wpAnyH_done (by kernel_rfl) ?_ _
       rw [← hC2.out] at rc
       go_wp2
       go_roundw
       case rel => exact ⟨k + 1, _, _, _, _, _, by omega, by go_num, (rt.setBox (by omega)), (rc.setBox (by omega)), by omega, by omega, (xc.far (by omega)), (xg.far (by omega)), (xr.far (by omega)), (xq.setAt (i := 1) (v := .slice qA qn qc) (ds := #[.slice tA tn tc, .slice qA qn qc, .slice none 0 0]) (by simp)), by repeat (with_reducible (first | assumption | exact Below.refl _ _ | refine Below.alloc ?_ (by first | omega | (simp; done) | (simp; omega)) _ | refine Below.setCell ?_ (by first | omega | (simp; done) | (simp; omega)) _ | refine Below.drew ?_ | refine below_drewN ?_ _))⟩
       case measure => simp [intOf]; omega
      ·refine valueH (by go_simp; (first | done | with_reducible rfl | exact ⟨rfl, rfl⟩)) ?_ (fun hS_ => ?_)
       ·exact ⟨(xg.alloc _).drew.three.1, (xg.alloc _).drew.three.2.1, (xg.alloc _).drew.three.2.2.1, (xc.alloc _).drew.two.1, (xc.alloc _).drew.two.2.1, (cellB g3h hcz), (cellB hg d1)⟩
       clear hS
       have hS := hS_
       clear hS_
       (try simp only [Act.put, layA, layB, layC])
       refine on 1 ?_
       obtain ⟨cxq_0, cxq_1, cxq_2, fxq_0, fxq_1, fxq_2⟩ := xq.three
       have l_xq_0 : w2.heap.size < w9.heap.size := by omega
       have l_xq_1 : w2.heap.size < w9.heap.size + 1 := by omega
       refine valueH (by go_simp; (first | done | with_reducible rfl | exact ⟨rfl, rfl⟩)) hS (fun hS => ?_)
       clear cxq_0 cxq_1 cxq_2 fxq_0 fxq_1 fxq_2 l_xq_0 l_xq_1
       (try simp only [Act.put, layA, layB, layC])
       refine on 17 ?_
       refine appendH_L (.tmp 34) (.tmp 49) rfl rfl ((rc.alloc _).drew) rfl (Ints.new (g := w9.heap.size) _ [labelFor (nth gL1 k) gI0 (m : Int)] 3 (by simp) rfl).drew (by have := hcl.out; omega) ?_
       intro qA qn qc qlo qhi w10 rc_ drc c10
       have z10 := c10.size
       (try simp only [World.size_alloc, World.size_setCell, size_drew] at z10 drc)
       have B10 : Below w.heap.size w w10 := Below.trans (b := _) (by repeat (with_reducible (first | assumption | exact Below.refl _ _ | refine Below.alloc ?_ (by first | omega | (simp; done) | (simp; omega)) _ | refine Below.setCell ?_ (by first | omega | (simp; done) | (simp; omega)) _ | refine Below.drew ?_ | refine below_drewN ?_ _))) (c10.below (by omega) (by first | omega | (simp [size_drew]; done) | (simp [size_drew]; omega)))
       clear rc; have rc := rc_; clear rc_
       have rt_ := ((rt.alloc _).drew).away c10 (by omega)
       clear rt; have rt := rt_; clear rt_
       have xc_ : Box w10 (w.heap.size) #[.slice (some ⟨g, o, none⟩) cn0 cc0, (.slice cA1 cn1 cc1)] 27 := ((xc.alloc _).drew).chg c10 (by omega)
       clear xc; have xc := xc_; clear xc_
       have xg_ : Box w10 (w.heap.size + 1) #[.int .i64 gI0, .slice (some ⟨g3, g3o, none⟩) gn1 gc1, (.slice gA2 gn2 gc2)] 33 := ((xg.alloc _).drew).chg c10 (by omega)
       clear xg; have xg := xg_; clear xg_
       have xr_ : Box w10 (w.heap.size + 1 + 1) #[.slice none 0 0, .slice none 0 0, .slice none 0 0] 37 := ((xr.alloc _).drew).chg c10 (by omega)
       clear xr; have xr := xr_; clear xr_
       have xq_ : Box w10 (w2.heap.size) #[.slice tA tn tc, .slice A1 n1 c1, .slice none 0 0] 37 := ((xq.alloc _).drew).chg c10 (by omega)
       clear xq; have xq := xq_; clear xq_
       have xl_ : Box w10 (w9.heap.size) #[.int .i64 (labelFor (nth gL1 k) gI0 (m : Int))] 3 := ((Box.new (g := w9.heap.size) _ #[.int .i64 (labelFor (nth gL1 k) gI0 (m : Int))] 3 (by simp)).drew).chg c10 (by omega)
       have xl := xl_; clear xl_
       refine ⟨⟨xg.three.1, xg.three.2.1, xg.three.2.2.1, xc.two.1, xc.two.2.1, (cellB g3h hcz), (cellB hg d1)⟩, fun hS_ => ?_⟩
       clear hS; have hS := hS_; clear hS_
       (try simp only [Act.put, layA, layB, layC])
       (refine tk 18 hS ?_; (try simp only [Act.put, layA, layB, layC]))
       refine on 19 ?_
       obtain ⟨cxq_0, cxq_1, cxq_2, fxq_0, fxq_1, fxq_2⟩ := xq.three
       refine skipH (by go_simp; (first | done | with_reducible rfl | exact ⟨rfl, rfl⟩)) ?_ (fun hS_ => ?_)
       ·exact ⟨(xg.far (by omega)).three.1, (xg.far (by omega)).three.2.1, (xg.far (by omega)).three.2.2.1, (xc.far (by omega)).two.1, (xc.far (by omega)).two.2.1, (cellB g3h hcz), (cellB hg d1)⟩
       clear cxq_0 cxq_1 cxq_2 fxq_0 fxq_1 fxq_2
       clear hS
       have hS := hS_
       clear hS_
       (try simp only [Act.put, layA, layB, layC])
       clear hS
       refine wpAnyH_done (by kernel_rfl) ?_ _
       rw [← hC2.out] at rc
       go_wp2
       go_roundw
       case rel => exact ⟨k + 1, _, _, _, _, _, by omega, by go_num, (rt.setBox (by omega)), (rc.setBox (by omega)), by omega, by omega, (xc.far (by omega)), (xg.far (by omega)), (xr.far (by omega)), (xq.setAt (i := 1) (v := .slice qA qn qc) (ds := #[.slice tA tn tc, .slice qA qn qc, .slice none 0 0]) (by simp)), by repeat (with_reducible (first | assumption | exact Below.refl _ _ | refine Below.alloc ?_ (by first | omega | (simp; done) | (simp; omega)) _ | refine Below.setCell ?_ (by first | omega | (simp; done) | (simp; omega)) _ | refine Below.drew ?_ | refine below_drewN ?_ _))⟩
       case measure => simp [intOf]; omega
    ·rw [hgt] at d0 d1 d2
     dsimp only at d0 d1 d2
     have hG := Lib.hid hgt
     clear hgt
     have e0 : w9.cell? ⟨g, o + k * 3, none⟩ = some (.int .i64 3) := (cellB hg d0)
     have e0_l : g < w9.heap.size := by omega
     have e1 : w9.cell? ⟨g, o + k * 3 + 1, none⟩ = some (.int .i64 (m : Int)) := (cellB hg d1)
     have e1_l : g < w9.heap.size := by omega
     have e2 : w9.cell? ⟨g, o + k * 3 + 2, none⟩ = some (.int .i64 (j : Int)) := (cellB hg d2)
     have e2_l : g < w9.heap.size := by omega
     have hC2 := Lib.hid (show cstL gI0 gL1 cL0 (k + 1) = cstL gI0 gL1 cL0 k by rw [cstL, hG.out, if_neg (by show ¬ (3 : Int) = 2; decide), List.append_nil])
     obtain ⟨cxc_0, cxc_1, fxc_0, fxc_1⟩ := xc.two
     have l_xc_0 : w.heap.size < w9.heap.size := by omega
     go_wp2
     rw [← hC2.out] at rc
     go_roundw
     case rel => exact ⟨k + 1, _, _, _, _, _, by omega, by go_num, rt, rc, by omega, by omega, xc, xg, xr, xq, by repeat (with_reducible (first | assumption | exact Below.refl _ _ | refine Below.alloc ?_ (by first | omega | (simp; done) | (simp; omega)) _ | refine Below.setCell ?_ (by first | omega | (simp; done) | (simp; omega)) _ | refine Below.drew ?_ | refine below_drewN ?_ _))⟩
     case measure => simp [intOf]; omega
    ·rw [hgt] at d0 d1 d2
     dsimp only at d0 d1 d2
     have hG := Lib.hid hgt
     clear hgt
     have e0 : w9.cell? ⟨g, o + k * 3, none⟩ = some (.int .i64 4) := (cellB hg d0)
     have e0_l : g < w9.heap.size := by omega
     have e1 : w9.cell? ⟨g, o + k * 3 + 1, none⟩ = some (.int .i64 (m : Int)) := (cellB hg d1)
     have e1_l : g < w9.heap.size := by omega
     have e2 : w9.cell? ⟨g, o + k * 3 + 2, none⟩ = some (.int .i64 (j : Int)) := (cellB hg d2)
     have e2_l : g < w9.heap.size := by omega
     have hC2 := Lib.hid (show cstL gI0 gL1 cL0 (k + 1) = cstL gI0 gL1 cL0 k by rw [cstL, hG.out, if_neg (by show ¬ (4 : Int) = 2; decide), List.append_nil])
     obtain ⟨cxc_0, cxc_1, fxc_0, fxc_1⟩ := xc.two
     have l_xc_0 : w.heap.size < w9.heap.size := by omega
     go_wp2
     rw [← hC2.out] at rc
     go_roundw
     case rel => exact ⟨k + 1, _, _, _, _, _, by omega, by go_num, rt, rc, by omega, by omega, xc, xg, xr, xq, by repeat (with_reducible (first | assumption | exact Below.refl _ _ | refine Below.alloc ?_ (by first | omega | (simp; done) | (simp; omega)) _ | refine Below.setCell ?_ (by first | omega | (simp; done) | (simp; omega)) _ | refine Below.drew ?_ | refine below_drewN ?_ _))⟩
     case measure => simp [intOf]; omega
    ·rw [hgt] at d0 d1 d2
     dsimp only at d0 d1 d2
     have hG := Lib.hid hgt
     clear hgt
     have e0 : w9.cell? ⟨g, o + k * 3, none⟩ = some (.int .i64 5) := (cellB hg d0)
     have e0_l : g < w9.heap.size := by omega
     have e1 : w9.cell? ⟨g, o + k * 3 + 1, none⟩ = some (.int .i64 (m : Int)) := (cellB hg d1)
     have e1_l : g < w9.heap.size := by omega
     have e2 : w9.cell? ⟨g, o + k * 3 + 2, none⟩ = some (.int .i64 0) := (cellB hg d2)
     have e2_l : g < w9.heap.size := by omega
     have hC2 := Lib.hid (show cstL gI0 gL1 cL0 (k + 1) = cstL gI0 gL1 cL0 k by rw [cstL, hG.out, if_neg (by show ¬ (5 : Int) = 2; decide), List.append_nil])
     obtain ⟨cxc_0, cxc_1, fxc_0, fxc_1⟩ := xc.two
     have l_xc_0 : w.heap.size < w9.heap.size := by omega
     go_wp2
     rw [← hC2.out] at rc
     go_roundw
     case rel => exact ⟨k + 1, _, _, _, _, _, by omega, by go_num, rt, rc, by omega, by omega, xc, xg, xr, xq, by repeat (with_reducible (first | assumption | exact Below.refl _ _ | refine Below.alloc ?_ (by first | omega | (simp; done) | (simp; omega)) _ | refine Below.setCell ?_ (by first | omega | (simp; done) | (simp; omega)) _ | refine Below.drew ?_ | refine below_drewN ?_ _))⟩
     case measure => simp [intOf]; omega
   ·obtain ⟨cxc_0, cxc_1, fxc_0, fxc_1⟩ := xc.two
    have l_xc_0 : w.heap.size < w9.heap.size := by omega
    go_wp2_with fail
    clear cxc_0 cxc_1 fxc_0 fxc_1 l_xc_0
    have hkn : k = cn0 := by omega
    rw [hkn] at rc
    clear hcl hc2 hlt hk hkn
    go_loopw [8] (fun i wr => ∃ (j : Nat) (A2 : Option Addr) (n2 c2 l2 h2 : Nat), j ≤ cn1 ∧ i = .int .i64 j ∧ Hid (OwnL wr tlo thi [(.slice tA tn tc, .ints gL2)]) ∧ Hid (OwnL wr l1 h1 [(.slice A1 n1 c1, .ints (cstL gI0 gL1 cL0 cn0))]) ∧ Hid (OwnL wr l2 h2 [(.slice A2 n2 c2, .ints (genL (pdF cL1 gL1) j))]) ∧ (thi ≤ l2 ∨ h2 ≤ tlo) ∧ (h1 ≤ l2 ∨ h2 ≤ l1) ∧ w2.heap.size < l2 ∧ Hid (Box wr (w.heap.size) #[(.slice cA0 cn0 cc0), (.slice cA1 cn1 cc1)] 27) ∧ Hid (Box wr (w.heap.size + 1) #[.int .i64 gI0, (.slice gA1 gn1 gc1), (.slice gA2 gn2 gc2)] 33) ∧ Hid (Box wr (w.heap.size + 1 + 1) #[.slice none 0 0, .slice none 0 0, .slice none 0 0] 37) ∧ Hid (Box wr (w2.heap.size) #[.slice tA tn tc, .slice A1 n1 c1, .slice A2 n2 c2] 37) ∧ Below w.heap.size w wr) (fun i wr => cn1 - (intOf i).toNat)
    case atStart => exact ⟨0, none, 0, 0, _, _, by omega, rfl, rt, rc, OwnL.nones (lo := w9.heap.size) [(.slice none 0 0, .ints [])] (by simp) (Nat.le_refl _), by omega, by omega, by omega, xc, xg, xr, xq, B9⟩
    case round =>
     obtain ⟨j, A2, n2, c2, l2, h2, hj, rfl, rt, rc, rd, hd2, hd3, hl2, xc, xg, xr, xq, B8⟩ := hrel
     obtain ⟨w8, hw8⟩ : ∃ x, x = wr := ⟨wr, rfl⟩
     subst hw8
     have rt := rt.out
     have rc := rc.out
     have rd := rd.out
     have xc := xc.out
     have zb8_xc := xc.lt
     have xg := xg.out
     have zb8_xg := xg.lt
     have xr := xr.out
     have zb8_xr := xr.lt
     have xq := xq.out
     have zb8_xq := xq.lt
     have hsn := Lib.hid (genL_snoc (pdF cL1 gL1) j)
     have hgl := Lib.hid (genL_len (pdF cL1 gL1) j)
     have z8 := B8.size
     have hr3 := rd.1
     have hr4 := rd.2.1
     have hr5 := rc.2.1
     have hr6 := rt.2.1
     by_cases hlt : j < cn1
     ·obtain ⟨m, hm, hmlt⟩ := circ_out HK.out (k := j) (by rw [cL1l.out]; exact hlt)
      have hm1 := Lib.hid hm
      have hmlt : m < cn0 := by rw [← cL0l.out]; exact hmlt
      obtain ⟨g, o, rfl, hg, hc⟩ := HO.out.block (by omega)
      have hco := hc j hlt
      clear hc
      rw [hm1.out] at hco
      clear hm
      have hmz : m < gn1 := by have := hzn.out; omega
      obtain ⟨g3, g3o, rfl, g3h, hc⟩ := HZ.out.block (by omega)
      have hcz := hc m (by omega)
      clear hc
      have hF := Lib.hid (show pdF cL1 gL1 j = bits .and .i64 (nth gL1 m) 1 by rw [pdF, hm1.out]; rfl)
      obtain ⟨cxc_0, cxc_1, fxc_0, fxc_1⟩ := xc.two
      have l_xc_0 : w.heap.size < w8.heap.size := by omega
      obtain ⟨cxg_0, cxg_1, cxg_2, fxg_0, fxg_1, fxg_2⟩ := xg.three
      have l_xg_0 : w.heap.size + 1 < w8.heap.size := by omega
      go_wp2_with fail
      clear cxc_0 cxc_1 fxc_0 fxc_1 l_xc_0 cxg_0 cxg_1 cxg_2 fxg_0 fxg_1 fxg_2 l_xg_0
      refine wp_region_held_drew (S := fun W => W.cell? ⟨w.heap.size + 1, 0, none⟩ = some (.int .i64 gI0) ∧ W.cell? ⟨w.heap.size + 1, 1, none⟩ = some (.slice (some ⟨g3, g3o, none⟩) gn1 gc1) ∧ W.cell? ⟨w.heap.size + 1, 2, none⟩ = some ((.slice gA2 gn2 gc2)) ∧ W.cell? ⟨w.heap.size, 0, none⟩ = some ((.slice cA0 cn0 cc0)) ∧ W.cell? ⟨w.heap.size, 1, none⟩ = some (.slice (some ⟨g, o, none⟩) cn1 cc1) ∧ W.cell? ⟨g3, g3o + m, none⟩ = some (.int .i64 (nth gL1 m)) ∧ W.cell? ⟨g, o + j, none⟩ = some (.int .i64 (m : Int))) (by kernel_rfl) ⟨xg.drew.three.1, xg.drew.three.2.1, xg.drew.three.2.2.1, xc.drew.two.1, xc.drew.two.2.1, (cellB g3h hcz), (cellB hg hco)⟩ (fun hS => ?_)
      (refine tk 0 hS ?_; (try simp only [Act.put, layA, layB, layC]))
      (refine tk 2 hS ?_; (try simp only [Act.put, layA, layB, layC]))
      (refine tk 3 hS ?_; (try simp only [Act.put, layA, layB, layC]))
      (refine tk 4 hS ?_; (try simp only [Act.put, layA, layB, layC]))
      (refine tk 5 hS ?_; (try simp only [Act.put, layA, layB, layC]))
      (refine tk 6 hS ?_; (try simp only [Act.put, layA, layB, layC]))
      (refine tk 7 hS ?_; (try simp only [Act.put, layA, layB, layC]))
      (refine tk 8 hS ?_; (try simp only [Act.put, layA, layB, layC]))
      (refine tk 9 hS ?_; (try simp only [Act.put, layA, layB, layC]))
      (refine tk 10 hS ?_; (try simp only [Act.put, layA, layB, layC]))
      (refine tk 11 hS ?_; (try simp only [Act.put, layA, layB, layC]))
      refine forkH (i := 1) (j := 12) (by simp only [List.getElem?_toArray, List.getElem?_cons_succ, List.getElem?_cons_zero] <;> rfl) (by simp only [List.getElem?_toArray, List.getElem?_cons_succ, List.getElem?_cons_zero] <;> rfl) (by kernel_rfl) (by rfl) (by rfl) ?_ ?_
      ·obtain ⟨cxq_0, cxq_1, cxq_2, fxq_0, fxq_1, fxq_2⟩ := xq.three
       have l_xq_0 : w2.heap.size < w8.heap.size := by omega
       refine valueH (by go_simp; (first | done | with_reducible rfl | exact ⟨rfl, rfl⟩)) hS (fun hS => ?_)
       clear cxq_0 cxq_1 cxq_2 fxq_0 fxq_1 fxq_2 l_xq_0
       (try simp only [Act.put, layA, layB, layC])
       refine on 12 ?_
       refine valueH (by go_simp; (first | done | with_reducible rfl | exact ⟨rfl, rfl⟩)) ?_ (fun hS_ => ?_)
       ·exact ⟨(xg.alloc _).drew.three.1, (xg.alloc _).drew.three.2.1, (xg.alloc _).drew.three.2.2.1, (xc.alloc _).drew.two.1, (xc.alloc _).drew.two.2.1, (cellB g3h hcz), (cellB hg hco)⟩
       clear hS
       have hS := hS_
       clear hS_
       (try simp only [Act.put, layA, layB, layC])
       refine on 13 ?_
       refine appendH_L (.tmp 60) (.tmp 71) rfl rfl ((rd.alloc _).drew) rfl (Ints.new (g := w8.heap.size) _ [bits .and .i64 (nth gL1 m) 1] 3 (by simp) rfl).drew (by have := hgl.out; omega) ?_
       intro qA qn qc qlo qhi w9 rd_ drd c9
       have z9 := c9.size
       (try simp only [World.size_alloc, World.size_setCell, size_drew] at z9 drd)
       have B9 : Below w.heap.size w w9 := Below.trans (b := _) (by repeat (with_reducible (first | assumption | exact Below.refl _ _ | refine Below.alloc ?_ (by first | omega | (simp; done) | (simp; omega)) _ | refine Below.setCell ?_ (by first | omega | (simp; done) | (simp; omega)) _ | refine Below.drew ?_ | refine below_drewN ?_ _))) (c9.below (by omega) (by first | omega | (simp [size_drew]; done) | (simp [size_drew]; omega)))
       clear rd; have rd := rd_; clear rd_
       have rt_ := ((rt.alloc _).drew).away c9 (by omega)
       clear rt; have rt := rt_; clear rt_
       have rc_ := ((rc.alloc _).drew).away c9 (by omega)
       clear rc; have rc := rc_; clear rc_
       have xc_ : Box w9 (w.heap.size) #[(.slice cA0 cn0 cc0), .slice (some ⟨g, o, none⟩) cn1 cc1] 27 := ((xc.alloc _).drew).chg c9 (by omega)
       clear xc; have xc := xc_; clear xc_
       have xg_ : Box w9 (w.heap.size + 1) #[.int .i64 gI0, .slice (some ⟨g3, g3o, none⟩) gn1 gc1, (.slice gA2 gn2 gc2)] 33 := ((xg.alloc _).drew).chg c9 (by omega)
       clear xg; have xg := xg_; clear xg_
       have xr_ : Box w9 (w.heap.size + 1 + 1) #[.slice none 0 0, .slice none 0 0, .slice none 0 0] 37 := ((xr.alloc _).drew).chg c9 (by omega)
       clear xr; have xr := xr_; clear xr_
       have xq_ : Box w9 (w2.heap.size) #[.slice tA tn tc, .slice A1 n1 c1, .slice A2 n2 c2] 37 := ((xq.alloc _).drew).chg c9 (by omega)
       clear xq; have xq := xq_; clear xq_
       have xl_ : Box w9 (w8.heap.size) #[.int .i64 (bits .and .i64 (nth gL1 m) 1)] 3 := ((Box.new (g := w8.heap.size) _ #[.int .i64 (bits .and .i64 (nth gL1 m) 1)] 3 (by simp)).drew).chg c9 (by omega)
       have xl := xl_; clear xl_
       refine ⟨⟨xg.three.1, xg.three.2.1, xg.three.2.2.1, xc.two.1, xc.two.2.1, (cellB g3h hcz), (cellB hg hco)⟩, fun hS_ => ?_⟩
       clear hS; have hS := hS_; clear hS_
       (try simp only [Act.put, layA, layB, layC])
       (refine tk 14 hS ?_; (try simp only [Act.put, layA, layB, layC]))
       refine on 15 ?_
       obtain ⟨cxq_0, cxq_1, cxq_2, fxq_0, fxq_1, fxq_2⟩ := xq.three
       refine skipH (by go_simp; (first | done | with_reducible rfl | exact ⟨rfl, rfl⟩)) ?_ (fun hS_ => ?_)
       ·exact ⟨(xg.far (by omega)).three.1, (xg.far (by omega)).three.2.1, (xg.far (by omega)).three.2.2.1, (xc.far (by omega)).two.1, (xc.far (by omega)).two.2.1, (cellB g3h hcz), (cellB hg hco)⟩
       clear cxq_0 cxq_1 cxq_2 fxq_0 fxq_1 fxq_2
       clear hS
       have hS := hS_
       clear hS_
       (try simp only [Act.put, layA, layB, layC])
       clear hS
       refine wpAnyH_done (by kernel_rfl) ?_ _
       rw [← hF.out, ← hsn.out] at rd
       go_wp2
       go_roundw
       case rel => exact ⟨j + 1, _, _, _, _, _, by omega, by go_num, (rt.setBox (by omega)), (rc.setBox (by omega)), (rd.setBox (by omega)), by omega, by omega, by omega, (xc.far (by omega)), (xg.far (by omega)), (xr.far (by omega)), (xq.setAt (i := 2) (v := .slice qA qn qc) (ds := #[.slice tA tn tc, .slice A1 n1 c1, .slice qA qn qc]) (by simp)), by repeat (with_reducible (first | assumption | exact Below.refl _ _ | refine Below.alloc ?_ (by first | omega | (simp; done) | (simp; omega)) _ | refine Below.setCell ?_ (by first | omega | (simp; done) | (simp; omega)) _ | refine Below.drew ?_ | refine below_drewN ?_ _))⟩
       case measure => simp [intOf]; omega
      ·refine valueH (by go_simp; (first | done | with_reducible rfl | exact ⟨rfl, rfl⟩)) ?_ (fun hS_ => ?_)
       ·exact ⟨(xg.alloc _).drew.three.1, (xg.alloc _).drew.three.2.1, (xg.alloc _).drew.three.2.2.1, (xc.alloc _).drew.two.1, (xc.alloc _).drew.two.2.1, (cellB g3h hcz), (cellB hg hco)⟩
       clear hS
       have hS := hS_
       clear hS_
       (try simp only [Act.put, layA, layB, layC])
       refine on 1 ?_
       obtain ⟨cxq_0, cxq_1, cxq_2, fxq_0, fxq_1, fxq_2⟩ := xq.three
       have l_xq_0 : w2.heap.size < w8.heap.size := by omega
       have l_xq_1 : w2.heap.size < w8.heap.size + 1 := by omega
       refine valueH (by go_simp; (first | done | with_reducible rfl | exact ⟨rfl, rfl⟩)) hS (fun hS => ?_)
       clear cxq_0 cxq_1 cxq_2 fxq_0 fxq_1 fxq_2 l_xq_0 l_xq_1
       (try simp only [Act.put, layA, layB, layC])
       refine on 13 ?_
       refine appendH_L (.tmp 60) (.tmp 71) rfl rfl ((rd.alloc _).drew) rfl (Ints.new (g := w8.heap.size) _ [bits .and .i64 (nth gL1 m) 1] 3 (by simp) rfl).drew (by have := hgl.out; omega) ?_
       intro qA qn qc qlo qhi w9 rd_ drd c9
       have z9 := c9.size
       (try simp only [World.size_alloc, World.size_setCell, size_drew] at z9 drd)
       have B9 : Below w.heap.size w w9 := Below.trans (b := _) (by repeat (with_reducible (first | assumption | exact Below.refl _ _ | refine Below.alloc ?_ (by first | omega | (simp; done) | (simp; omega)) _ | refine Below.setCell ?_ (by first | omega | (simp; done) | (simp; omega)) _ | refine Below.drew ?_ | refine below_drewN ?_ _))) (c9.below (by omega) (by first | omega | (simp [size_drew]; done) | (simp [size_drew]; omega)))
       clear rd; have rd := rd_; clear rd_
       have rt_ := ((rt.alloc _).drew).away c9 (by omega)
       clear rt; have rt := rt_; clear rt_
       have rc_ := ((rc.alloc _).drew).away c9 (by omega)
       clear rc; have rc := rc_; clear rc_
       have xc_ : Box w9 (w.heap.size) #[(.slice cA0 cn0 cc0), .slice (some ⟨g, o, none⟩) cn1 cc1] 27 := ((xc.alloc _).drew).chg c9 (by omega)
       clear xc; have xc := xc_; clear xc_
       have xg_ : Box w9 (w.heap.size + 1) #[.int .i64 gI0, .slice (some ⟨g3, g3o, none⟩) gn1 gc1, (.slice gA2 gn2 gc2)] 33 := ((xg.alloc _).drew).chg c9 (by omega)
       clear xg; have xg := xg_; clear xg_
       have xr_ : Box w9 (w.heap.size + 1 + 1) #[.slice none 0 0, .slice none 0 0, .slice none 0 0] 37 := ((xr.alloc _).drew).chg c9 (by omega)
       clear xr; have xr := xr_; clear xr_
       have xq_ : Box w9 (w2.heap.size) #[.slice tA tn tc, .slice A1 n1 c1, .slice A2 n2 c2] 37 := ((xq.alloc _).drew).chg c9 (by omega)
       clear xq; have xq := xq_; clear xq_
       have xl_ : Box w9 (w8.heap.size) #[.int .i64 (bits .and .i64 (nth gL1 m) 1)] 3 := ((Box.new (g := w8.heap.size) _ #[.int .i64 (bits .and .i64 (nth gL1 m) 1)] 3 (by simp)).drew).chg c9 (by omega)
       have xl := xl_; clear xl_
       refine ⟨⟨xg.three.1, xg.three.2.1, xg.three.2.2.1, xc.two.1, xc.two.2.1, (cellB g3h hcz), (cellB hg hco)⟩, fun hS_ => ?_⟩
       clear hS; have hS := hS_; clear hS_
       (try simp only [Act.put, layA, layB, layC])
       (refine tk 14 hS ?_; (try simp only [Act.put, layA, layB, layC]))
       refine on 15 ?_
       obtain ⟨cxq_0, cxq_1, cxq_2, fxq_0, fxq_1, fxq_2⟩ := xq.three
       refine skipH (by go_simp; (first | done | with_reducible rfl | exact ⟨rfl, rfl⟩)) ?_ (fun hS_ => ?_)
       ·exact ⟨(xg.far (by omega)).three.1, (xg.far (by omega)).three.2.1, (xg.far (by omega)).three.2.2.1, (xc.far (by omega)).two.1, (xc.far (by omega)).two.2.1, (cellB g3h hcz), (cellB hg hco)⟩
       clear cxq_0 cxq_1 cxq_2 fxq_0 fxq_1 fxq_2
       clear hS
       have hS := hS_
       clear hS_
       (try simp only [Act.put, layA, layB, layC])
       clear hS
       refine wpAnyH_done (by kernel_rfl) ?_ _
       rw [← hF.out, ← hsn.out] at rd
       go_wp2
       go_roundw
       case rel => exact ⟨j + 1, _, _, _, _, _, by omega, by go_num, (rt.setBox (by omega)), (rc.setBox (by omega)), (rd.setBox (by omega)), by omega, by omega, by omega, (xc.far (by omega)), (xg.far (by omega)), (xr.far (by omega)), (xq.setAt (i := 2) (v := .slice qA qn qc) (ds := #[.slice tA tn tc, .slice A1 n1 c1, .slice qA qn qc]) (by simp)), by repeat (with_reducible (first | assumption | exact Below.refl _ _ | refine Below.alloc ?_ (by first | omega | (simp; done) | (simp; omega)) _ | refine Below.setCell ?_ (by first | omega | (simp; done) | (simp; omega)) _ | refine Below.drew ?_ | refine below_drewN ?_ _))⟩
       case measure => simp [intOf]; omega
     ·have hjn : j = cn1 := by omega
      obtain ⟨cxc_0, cxc_1, fxc_0, fxc_1⟩ := xc.two
      have l_xc_0 : w.heap.size < w8.heap.size := by omega
      obtain ⟨cxq_0, cxq_1, cxq_2, fxq_0, fxq_1, fxq_2⟩ := xq.three
      have l_xq_0 : w2.heap.size < w8.heap.size := by omega
      obtain ⟨cxr_0, cxr_1, cxr_2, fxr_0, fxr_1, fxr_2⟩ := xr.three
      have l_xr_0 : w.heap.size + 1 + 1 < w8.heap.size := by omega
      go_wp2
      refine bodyPost_ret (v := .tuple #[.agg #[.slice tA tn tc, .slice A1 n1 c1, .slice A2 n2 c2], .bool true]) (by simp [results, Try.results71, go_sem, cxc_0, cxc_1, fxc_0, fxc_1, l_xc_0, cxq_0, cxq_1, cxq_2, fxq_0, fxq_1, fxq_2, l_xq_0, cxr_0, cxr_1, cxr_2, fxr_0, fxr_1, fxr_2, l_xr_0]) rfl ⟨tA, tn, tc, A1, n1, c1, A2, n2, c2, rfl, ?_, ?_⟩
      ·have R := OwnL.three (B := w.heap.size + 1 + 1 + 1) rt rc rd (by omega) (by omega) (by omega) (by omega) (by omega) (by omega)
       rw [puT_yes HO2.out, puC_yes HO2.out, puD_yes HO2.out, cL0l.out, cL1l.out, ← hjn]
       exact OwnL.mono (((R.setBox (by omega)).setBox (by omega)).setBox (by omega)) (by omega) (by first | omega | (simp [size_drew]; done) | (simp [size_drew]; omega)) (Nat.le_refl _)
      ·repeat (with_reducible (first | assumption | exact Below.refl _ _ | refine Below.alloc ?_ (by first | omega | (simp; done) | (simp; omega)) _ | refine Below.setCell ?_ (by first | omega | (simp; done) | (simp; omega)) _ | refine Below.drew ?_ | refine below_drewN ?_ _))
set_option maxRecDepth 100000 in
set_option maxHeartbeats 10000000 in
theorem iPublicOf_L {cA0 : Option Addr} {cn0 cc0 : Nat} {cL0 : List (Int × Int × Int)} {cA1 : Option Addr} {cn1 cc1 : Nat} {cL1 : List Int} {gA1 : Option Addr} {gn1 gc1 : Nat} {gL1 : List Int} {gA2 : Option Addr} {gn2 gc2 : Nat} {gL2 : List Int} {w : World} (cH : RdL w [((.slice cA0 cn0 cc0), .gates cL0), ((.slice cA1 cn1 cc1), .ints cL1)]) (cL0n : cL0.length ≤ 1048576) (cL1n : cL1.length ≤ 1048576) (gI0 : Int) (gH : RdL w [((.slice gA1 gn1 gc1), .ints gL1), ((.slice gA2 gn2 gc2), .ints gL2)]) (gL1n : gL1.length ≤ 1048576) (gL2n : gL2.length ≤ 1048576) :
  Calls Try.prog 25 #[.agg #[(.slice cA0 cn0 cc0), (.slice cA1 cn1 cc1)], .agg #[.int .i64 gI0, (.slice gA1 gn1 gc1), (.slice gA2 gn2 gc2)]] w fun e w' => ∃ rA0 rn0 rc0 rA1 rn1 rc1 rA2 rn2 rc2, e = .returned (.tuple #[.agg #[.slice rA0 rn0 rc0, .slice rA1 rn1 rc1, .slice rA2 rn2 rc2], .bool (gbOk cL0 cL1 gI0 gL1 gL2)]) ∧ OwnL w' w.heap.size w'.heap.size [(.slice rA0 rn0 rc0, .ints (puT cL0 cL1 gI0 gL1 gL2)), (.slice rA1 rn1 rc1, .ints (puC cL0 cL1 gI0 gL1 gL2)), (.slice rA2 rn2 rc2, .ints (puD cL0 cL1 gI0 gL1 gL2))] ∧ Below w.heap.size w w' := by
 have cL0g : Gates w cA0 cn0 cL0 := RdG.toG (cH ((.slice cA0 cn0 cc0), .gates cL0) (by simp))
 have cL0l := Lib.hid cL0g.1
 have cL0m : cn0 ≤ 1048576 := by rw [← cL0l.out]; exact cL0n
 have cL1i : Ints w cA1 cn1 cL1 := Rd.toInts (cH ((.slice cA1 cn1 cc1), .ints cL1) (by simp))
 have cL1l := Lib.hid cL1i.len
 have cL1m : cn1 ≤ 1048576 := by rw [← cL1l.out]; exact cL1n
 have gL1i : Ints w gA1 gn1 gL1 := Rd.toInts (gH ((.slice gA1 gn1 gc1), .ints gL1) (by simp))
 have gL1l := Lib.hid gL1i.len
 have gL1m : gn1 ≤ 1048576 := by rw [← gL1l.out]; exact gL1n
 have gL2i : Ints w gA2 gn2 gL2 := Rd.toInts (gH ((.slice gA2 gn2 gc2), .ints gL2) (by simp))
 have gL2l := Lib.hid gL2i.len
 have gL2m : gn2 ≤ 1048576 := by rw [← gL2l.out]; exact gL2n
 cases k1 : gbOk cL0 cL1 gI0 gL1 gL2 with
 | false =>
  go_enter Try.func25, Try.ntmps25
  go_wp2_with fail
  refine (iGarbledOk_L (RdL.b cH) cL0n cL1n gI0 (RdL.b gH) gL1n gL2n).mono ?_
  rintro e w1 ⟨rfl, b1⟩
  have z1 := b1.size
  try simp only [World.size_alloc, World.size_setCell, size_drew] at z1
  have B1 : Below w.heap.size w w1 := Below.t b1
  have xc_ : Box w1 (w.heap.size) #[(.slice cA0 cn0 cc0), (.slice cA1 cn1 cc1)] 27 := (((Box.new (g := w.heap.size) _ #[(.slice cA0 cn0 cc0), (.slice cA1 cn1 cc1)] 27 (by simp)).alloc _).alloc _).below b1 (by first | omega | (simp [size_drew]; done) | (simp [size_drew]; omega))
  have xc := xc_; clear xc_
  have xg_ : Box w1 (w.heap.size + 1) #[.int .i64 gI0, (.slice gA1 gn1 gc1), (.slice gA2 gn2 gc2)] 33 := ((Box.new (g := w.heap.size + 1) _ #[.int .i64 gI0, (.slice gA1 gn1 gc1), (.slice gA2 gn2 gc2)] 33 (by simp)).alloc _).below b1 (by first | omega | (simp [size_drew]; done) | (simp [size_drew]; omega))
  have xg := xg_; clear xg_
  have xr_ : Box w1 (w.heap.size + 1 + 1) #[.slice none 0 0, .slice none 0 0, .slice none 0 0] 37 := (Box.new (g := w.heap.size + 1 + 1) _ #[.slice none 0 0, .slice none 0 0, .slice none 0 0] 37 (by simp)).below b1 (by first | omega | (simp [size_drew]; done) | (simp [size_drew]; omega))
  have xr := xr_; clear xr_
  rw [k1]
  obtain ⟨cxr_0, cxr_1, cxr_2, fxr_0, fxr_1, fxr_2⟩ := xr.three
  have l_xr_0 : w.heap.size + 1 + 1 < w1.heap.size := by omega
  go_wp2
  refine bodyPost_ret (v := .tuple #[.agg #[.slice none 0 0, .slice none 0 0, .slice none 0 0], .bool false]) (by simp [results, Try.results25, go_sem, cxr_0, cxr_1, cxr_2, fxr_0, fxr_1, fxr_2, l_xr_0]) rfl ⟨none, 0, 0, none, 0, 0, none, 0, 0, rfl, ?_, ?_⟩
  ·rw [puT_no k1, puC_no k1, puD_no k1]; exact OwnL.nones _ (by simp) (by first | omega | (simp [size_drew]; done) | (simp [size_drew]; omega))
  ·repeat (with_reducible (first | assumption | exact Below.refl _ _ | refine Below.alloc ?_ (by first | omega | (simp; done) | (simp; omega)) _ | refine Below.setCell ?_ (by first | omega | (simp; done) | (simp; omega)) _ | refine Below.drew ?_ | refine below_drewN ?_ _))
 | true =>
  go_enter Try.func25, Try.ntmps25
  go_wp2_with fail
  refine (iGarbledOk_L (RdL.b cH) cL0n cL1n gI0 (RdL.b gH) gL1n gL2n).mono ?_
  rintro e w1 ⟨rfl, b1⟩
  have z1 := b1.size
  try simp only [World.size_alloc, World.size_setCell, size_drew] at z1
  have B1 : Below w.heap.size w w1 := Below.t b1
  have xc_ : Box w1 (w.heap.size) #[(.slice cA0 cn0 cc0), (.slice cA1 cn1 cc1)] 27 := (((Box.new (g := w.heap.size) _ #[(.slice cA0 cn0 cc0), (.slice cA1 cn1 cc1)] 27 (by simp)).alloc _).alloc _).below b1 (by first | omega | (simp [size_drew]; done) | (simp [size_drew]; omega))
  have xc := xc_; clear xc_
  have xg_ : Box w1 (w.heap.size + 1) #[.int .i64 gI0, (.slice gA1 gn1 gc1), (.slice gA2 gn2 gc2)] 33 := ((Box.new (g := w.heap.size + 1) _ #[.int .i64 gI0, (.slice gA1 gn1 gc1), (.slice gA2 gn2 gc2)] 33 (by simp)).alloc _).below b1 (by first | omega | (simp [size_drew]; done) | (simp [size_drew]; omega))
  have xg := xg_; clear xg_
  have xr_ : Box w1 (w.heap.size + 1 + 1) #[.slice none 0 0, .slice none 0 0, .slice none 0 0] 37 := (Box.new (g := w.heap.size + 1 + 1) _ #[.slice none 0 0, .slice none 0 0, .slice none 0 0] 37 (by simp)).below b1 (by first | omega | (simp [size_drew]; done) | (simp [size_drew]; omega))
  have xr := xr_; clear xr_
  rw [k1]
  have HO2 := Lib.hid k1
  have HK := Lib.hid (gb_circ k1)
  have HG := Lib.hid cL0g
  have HO := Lib.hid cL1i
  have HZ := Lib.hid gL1i
  have hzn := Lib.hid (show gn1 = cn0 by have := (gb_zs k1).1; have := gL1l.out; have := cL0l.out; omega)
  clear k1
  obtain ⟨cxg_0, cxg_1, cxg_2, fxg_0, fxg_1, fxg_2⟩ := xg.three
  have l_xg_0 : w.heap.size + 1 < w1.heap.size := by omega
  go_wp2_with fail
  refine (ints_L gL2i.b (by omega)).mono ?_
  rintro e w2 ⟨tA, tn, tc, rfl, rt, b2⟩
  clear cxg_0 cxg_1 cxg_2 fxg_0 fxg_1 fxg_2 l_xg_0
  have z2 := b2.size
  try simp only [World.size_alloc, World.size_setCell, size_drew] at z2
  have B2 : Below w.heap.size w w2 := Below.t b2
  have xc_ : Box w2 (w.heap.size) #[(.slice cA0 cn0 cc0), (.slice cA1 cn1 cc1)] 27 := xc.below b2 (by first | omega | (simp [size_drew]; done) | (simp [size_drew]; omega))
  clear xc; have xc := xc_; clear xc_
  have xg_ : Box w2 (w.heap.size + 1) #[.int .i64 gI0, (.slice gA1 gn1 gc1), (.slice gA2 gn2 gc2)] 33 := xg.below b2 (by first | omega | (simp [size_drew]; done) | (simp [size_drew]; omega))
  clear xg; have xg := xg_; clear xg_
  have xr_ : Box w2 (w.heap.size + 1 + 1) #[.slice none 0 0, .slice none 0 0, .slice none 0 0] 37 := xr.below b2 (by first | omega | (simp [size_drew]; done) | (simp [size_drew]; omega))
  clear xr; have xr := xr_; clear xr_
  try simp only [World.size_alloc, World.size_setCell, size_drew] at rt
  obtain ⟨cxc_0, cxc_1, fxc_0, fxc_1⟩ := xc.two
  have l_xc_0 : w.heap.size < w2.heap.size := by omega
  have l_xc_1 : w.heap.size < w2.heap.size + 1 := by omega
  go_wp2_with fail
  clear cxc_0 cxc_1 fxc_0 fxc_1 l_xc_0 l_xc_1
  generalize hw3 : World.alloc _ _ = w3
  have z3 : w2.heap.size + 1 ≤ w3.heap.size := by rw [← hw3]; simp
  have B3 : Below w.heap.size w w3 := by rw [← hw3]; repeat (with_reducible (first | assumption | exact Below.refl _ _ | refine Below.alloc ?_ (by first | omega | (simp; done) | (simp; omega)) _ | refine Below.setCell ?_ (by first | omega | (simp; done) | (simp; omega)) _ | refine Below.drew ?_ | refine below_drewN ?_ _))
  have hK : ∀ k, k < w2.heap.size → w3.heap[k]? = w2.heap[k]? := by
   intro k hk; rw [← hw3]
   repeat (first | rfl | refine (Below.heap_alloc _ _ _ (by first | omega | (simp; omega))).trans ?_)
  have rt_ := rt.keepBlock (w' := w3) (by omega) (fun k h1 h2 => hK k  (by have := rt.2.1; omega))
  clear rt; have rt := rt_; clear rt_
  have xc_ : Box w3 (w.heap.size) #[(.slice cA0 cn0 cc0), (.slice cA1 cn1 cc1)] 27 := (by rw [← hw3]; exact (xc.alloc _))
  clear xc; have xc := xc_; clear xc_
  have xg_ : Box w3 (w.heap.size + 1) #[.int .i64 gI0, (.slice gA1 gn1 gc1), (.slice gA2 gn2 gc2)] 33 := (by rw [← hw3]; exact (xg.alloc _))
  clear xg; have xg := xg_; clear xg_
  have xr_ : Box w3 (w.heap.size + 1 + 1) #[.slice none 0 0, .slice none 0 0, .slice none 0 0] 37 := (by rw [← hw3]; exact (xr.alloc _))
  clear xr; have xr := xr_; clear xr_
  have xq_ : Box w3 (w2.heap.size) #[.slice tA tn tc, .slice none 0 0, .slice none 0 0] 37 := (by rw [← hw3]; exact (Box.new (g := w2.heap.size) _ #[.slice tA tn tc, .slice none 0 0, .slice none 0 0] 37 (by simp)))
  have xq := xq_; clear xq_
  clear hw3 hK
  have zq := xq.lt
  have htr1 := rt.1
  have htr2 := rt.2.1
  have htlq : w.heap.size + 1 + 1 + 1 ≤ w1.heap.size ∧ w2.heap.size ≤ w2.heap.size := by constructor <;> omega
  obtain ⟨htq1, htq2⟩ := htlq
  go_loopw [23] (fun i wr => ∃ (k : Nat) (A1 : Option Addr) (n1 c1 l1 h1 : Nat), k ≤ cn0 ∧ i = .int .i64 k ∧ Hid (OwnL wr w1.heap.size w2.heap.size [(.slice tA tn tc, .ints gL2)]) ∧ Hid (OwnL wr l1 h1 [(.slice A1 n1 c1, .ints (cstL gI0 gL1 cL0 k))]) ∧ (w2.heap.size ≤ l1 ∨ h1 ≤ w1.heap.size) ∧ w2.heap.size < l1 ∧ Hid (Box wr (w.heap.size) #[(.slice cA0 cn0 cc0), (.slice cA1 cn1 cc1)] 27) ∧ Hid (Box wr (w.heap.size + 1) #[.int .i64 gI0, (.slice gA1 gn1 gc1), (.slice gA2 gn2 gc2)] 33) ∧ Hid (Box wr (w.heap.size + 1 + 1) #[.slice none 0 0, .slice none 0 0, .slice none 0 0] 37) ∧ Hid (Box wr (w2.heap.size) #[.slice tA tn tc, .slice A1 n1 c1, .slice none 0 0] 37) ∧ Below w.heap.size w wr) (fun i wr => cn0 - (intOf i).toNat)
  case atStart => exact ⟨0, none, 0, 0, _, _, by omega, rfl, rt, OwnL.nones (lo := w3.heap.size) [(.slice none 0 0, .ints [])] (by simp) (Nat.le_refl _), by omega, by omega, xc, xg, xr, xq, B3⟩
  case round =>
   obtain ⟨k, A1, n1, c1, l1, h1, hk, rfl, rt, rc, hd1, hl1, xc, xg, xr, xq, B9⟩ := hrel
   obtain ⟨w9, hw9⟩ : ∃ x, x = wr := ⟨wr, rfl⟩
   subst hw9
   have rt := rt.out
   have rc := rc.out
   have xc := xc.out
   have zb_xc := xc.lt
   have xg := xg.out
   have zb_xg := xg.lt
   have xr := xr.out
   have zb_xr := xr.lt
   have xq := xq.out
   have zb_xq := xq.lt
   have hcl := Lib.hid (cstL_len gI0 gL1 cL0 k)
   have z9 := B9.size
   have hc2 := cntG_le cL0 2 k
   have hr1 := rc.1
   have hr2 := rc.2.1
   by_cases hlt : k < cn0
   ·obtain ⟨g, o, rfl, hg, d0, d1, d2⟩ := (HG.out).at hlt
    change _ = some (Value.int .i64 (gAt cL0 k).1) at d0
    change _ = some (Value.int .i64 (gAt cL0 k).2.1) at d1
    change _ = some (Value.int .i64 (gAt cL0 k).2.2) at d2
    rcases gate_cases HK.out (k := k) (by rw [cL0l.out]; exact hlt) with ⟨m, hgt, hmb⟩ | ⟨m, hgt, hmb⟩ | ⟨m, j, hgt, hmb, hjb⟩ | ⟨m, j, hgt, hmb, hjb⟩ | ⟨m, hgt, hmb⟩
    ·rw [hgt] at d0 d1 d2
     dsimp only at d0 d1 d2
     have hG := Lib.hid hgt
     clear hgt
     have e0 : w9.cell? ⟨g, o + k * 3, none⟩ = some (.int .i64 1) := (cellB hg d0)
     have e0_l : g < w9.heap.size := by omega
     have e1 : w9.cell? ⟨g, o + k * 3 + 1, none⟩ = some (.int .i64 (m : Int)) := (cellB hg d1)
     have e1_l : g < w9.heap.size := by omega
     have e2 : w9.cell? ⟨g, o + k * 3 + 2, none⟩ = some (.int .i64 0) := (cellB hg d2)
     have e2_l : g < w9.heap.size := by omega
     have hC2 := Lib.hid (show cstL gI0 gL1 cL0 (k + 1) = cstL gI0 gL1 cL0 k by rw [cstL, hG.out, if_neg (by show ¬ (1 : Int) = 2; decide), List.append_nil])
     obtain ⟨cxc_0, cxc_1, fxc_0, fxc_1⟩ := xc.two
     have l_xc_0 : w.heap.size < w9.heap.size := by omega
     have l_xc_1 : w.heap.size < w9.heap.size + 1 := by omega
     go_wp2
     rw [← hC2.out] at rc
     go_roundw
     case rel => exact ⟨k + 1, _, _, _, _, _, by omega, by go_num, (rt.alloc _), (rc.alloc _), by omega, by omega, (xc.alloc _), (xg.alloc _), (xr.alloc _), (xq.alloc _), by repeat (with_reducible (first | assumption | exact Below.refl _ _ | refine Below.alloc ?_ (by first | omega | (simp; done) | (simp; omega)) _ | refine Below.setCell ?_ (by first | omega | (simp; done) | (simp; omega)) _ | refine Below.drew ?_ | refine below_drewN ?_ _))⟩
     case measure => simp [intOf]; omega
    ·rw [hgt] at d0 d1 d2
     dsimp only at d0 d1 d2
     have hG := Lib.hid hgt
     clear hgt
     have e0 : w9.cell? ⟨g, o + k * 3, none⟩ = some (.int .i64 2) := (cellB hg d0)
     have e0_l : g < w9.heap.size := by omega
     have e1 : w9.cell? ⟨g, o + k * 3 + 1, none⟩ = some (.int .i64 (m : Int)) := (cellB hg d1)
     have e1_l : g < w9.heap.size := by omega
     have e2 : w9.cell? ⟨g, o + k * 3 + 2, none⟩ = some (.int .i64 0) := (cellB hg d2)
     have e2_l : g < w9.heap.size := by omega
     have hC2 := Lib.hid (show cstL gI0 gL1 cL0 (k + 1) = cstL gI0 gL1 cL0 k ++ [labelFor (nth gL1 k) gI0 (m : Int)] by rw [cstL, hG.out]; rfl)
     have hkz : k < gn1 := by have := hzn.out; omega
     obtain ⟨g3, g3o, rfl, g3h, hc⟩ := HZ.out.block (by omega)
     have hcz := hc k (by omega)
     clear hc
     obtain ⟨cxc_0, cxc_1, fxc_0, fxc_1⟩ := xc.two
     have l_xc_0 : w.heap.size < w9.heap.size := by omega
     have l_xc_1 : w.heap.size < w9.heap.size + 1 := by omega
     go_wp2_with fail
     clear cxc_0 cxc_1 fxc_0 fxc_1 l_xc_0 l_xc_1
     obtain ⟨cxg_0, cxg_1, cxg_2, fxg_0, fxg_1, fxg_2⟩ := xg.three
     have l_xg_0 : w.heap.size + 1 < w9.heap.size := by omega
     have l_xg_1 : w.heap.size + 1 < w9.heap.size + 1 := by omega
     go_wp2_with fail
     clear cxg_0 cxg_1 cxg_2 fxg_0 fxg_1 fxg_2 l_xg_0 l_xg_1
     generalize hw10 : World.alloc _ _ = w10
     have z10 : w9.heap.size + 1 ≤ w10.heap.size := by rw [← hw10]; simp
     have B10 : Below w.heap.size w w10 := by rw [← hw10]; repeat (with_reducible (first | assumption | exact Below.refl _ _ | refine Below.alloc ?_ (by first | omega | (simp; done) | (simp; omega)) _ | refine Below.setCell ?_ (by first | omega | (simp; done) | (simp; omega)) _ | refine Below.drew ?_ | refine below_drewN ?_ _))
     have hK : ∀ k, k < w9.heap.size → w10.heap[k]? = w9.heap[k]? := by
      intro k hk; rw [← hw10]
      repeat (first | rfl | refine (Below.heap_alloc _ _ _ (by first | omega | (simp; omega))).trans ?_)
     have rt_ := rt.keepBlock (w' := w10) (by omega) (fun k h1 h2 => hK k  (by have := rt.2.1; omega))
     clear rt; have rt := rt_; clear rt_
     have rc_ := rc.keepBlock (w' := w10) (by omega) (fun k h1 h2 => hK k  (by have := rc.2.1; omega))
     clear rc; have rc := rc_; clear rc_
     have xc_ : Box w10 (w.heap.size) #[.slice (some ⟨g, o, none⟩) cn0 cc0, (.slice cA1 cn1 cc1)] 27 := (by rw [← hw10]; exact (xc.alloc _))
     clear xc; have xc := xc_; clear xc_
     have xg_ : Box w10 (w.heap.size + 1) #[.int .i64 gI0, .slice (some ⟨g3, g3o, none⟩) gn1 gc1, (.slice gA2 gn2 gc2)] 33 := (by rw [← hw10]; exact (xg.alloc _))
     clear xg; have xg := xg_; clear xg_
     have xr_ : Box w10 (w.heap.size + 1 + 1) #[.slice none 0 0, .slice none 0 0, .slice none 0 0] 37 := (by rw [← hw10]; exact (xr.alloc _))
     clear xr; have xr := xr_; clear xr_
     have xq_ : Box w10 (w2.heap.size) #[.slice tA tn tc, .slice A1 n1 c1, .slice none 0 0] 37 := (by rw [← hw10]; exact (xq.alloc _))
     clear xq; have xq := xq_; clear xq_
     have xx_ : Box w10 (w9.heap.size) #[.int .i64 2, .int .i64 (m : Int), .int .i64 0] 74 := (by rw [← hw10]; exact (Box.new (g := w9.heap.size) _ #[.int .i64 2, .int .i64 (m : Int), .int .i64 0] 74 (by simp)))
     have xx := xx_; clear xx_
     clear hw10 hK
     refine wp_region_held_drew (S := fun W => W.cell? ⟨w.heap.size + 1, 0, none⟩ = some (.int .i64 gI0) ∧ W.cell? ⟨w.heap.size + 1, 1, none⟩ = some (.slice (some ⟨g3, g3o, none⟩) gn1 gc1) ∧ W.cell? ⟨w.heap.size + 1, 2, none⟩ = some ((.slice gA2 gn2 gc2)) ∧ W.cell? ⟨w9.heap.size, 0, none⟩ = some (.int .i64 2) ∧ W.cell? ⟨w9.heap.size, 1, none⟩ = some (.int .i64 (m : Int)) ∧ W.cell? ⟨w9.heap.size, 2, none⟩ = some (.int .i64 0) ∧ W.cell? ⟨g3, g3o + k, none⟩ = some (.int .i64 (nth gL1 k))) (by kernel_rfl) ⟨xg.drew.three.1, xg.drew.three.2.1, xg.drew.three.2.2.1, xx.drew.three.1, xx.drew.three.2.1, xx.drew.three.2.2.1, (cellB g3h hcz)⟩ (fun hS => ?_)
     (refine tk 0 hS ?_; (try simp only [Act.put, layA, layB, layC]))
     (refine tk 2 hS ?_; (try simp only [Act.put, layA, layB, layC]))
     (refine tk 3 hS ?_; (try simp only [Act.put, layA, layB, layC]))
     (refine tk 4 hS ?_; (try simp only [Act.put, layA, layB, layC]))
     (refine tk 5 hS ?_; (try simp only [Act.put, layA, layB, layC]))
     (refine tk 6 hS ?_; (try simp only [Act.put, layA, layB, layC]))
     (refine tk 7 hS ?_; (try simp only [Act.put, layA, layB, layC]))
     (refine tk 8 hS ?_; (try simp only [Act.put, layA, layB, layC]))
     (refine tk 9 hS ?_; (try simp only [Act.put, layA, layB, layC]))
     (refine tk 10 hS ?_; (try simp only [Act.put, layA, layB, layC]))
     refine forkH (i := 1) (j := 11) (by simp only [List.getElem?_toArray, List.getElem?_cons_succ, List.getElem?_cons_zero] <;> rfl) (by simp only [List.getElem?_toArray, List.getElem?_cons_succ, List.getElem?_cons_zero] <;> rfl) (by kernel_rfl) (by rfl) (by rfl) ?_ ?_
     ·obtain ⟨cxq_0, cxq_1, cxq_2, fxq_0, fxq_1, fxq_2⟩ := xq.three
      have l_xq_0 : w2.heap.size < w10.heap.size := by omega
      refine valueH (by go_simp; (first | done | with_reducible rfl | exact ⟨rfl, rfl⟩)) hS (fun hS => ?_)
      clear cxq_0 cxq_1 cxq_2 fxq_0 fxq_1 fxq_2 l_xq_0
      (try simp only [Act.put, layA, layB, layC])
      refine on 11 ?_
      refine callH (by go_simp; (first | done | with_reducible rfl | exact ⟨rfl, rfl⟩)) ?_
      go_at_call 90
      refine (iLabelFor_any _ _ _ _).mono ?_
      rintro e w11 ⟨rfl, b11⟩
      clear hS
      have z11 := Below.size b11
      (try simp only [World.size_alloc, World.size_setCell, size_drew] at z11)
      have B11 : Below w.heap.size w w11 := Below.t b11
      have rt_ := (rt.drew.below b11)
      clear rt; have rt := rt_; clear rt_
      have rc_ := (rc.drew.below b11)
      clear rc; have rc := rc_; clear rc_
      have xc_ : Box w11 (w.heap.size) #[.slice (some ⟨g, o, none⟩) cn0 cc0, (.slice cA1 cn1 cc1)] 27 := (Box.b xc.drew b11)
      clear xc; have xc := xc_; clear xc_
      have xg_ : Box w11 (w.heap.size + 1) #[.int .i64 gI0, .slice (some ⟨g3, g3o, none⟩) gn1 gc1, (.slice gA2 gn2 gc2)] 33 := (Box.b xg.drew b11)
      clear xg; have xg := xg_; clear xg_
      have xr_ : Box w11 (w.heap.size + 1 + 1) #[.slice none 0 0, .slice none 0 0, .slice none 0 0] 37 := (Box.b xr.drew b11)
      clear xr; have xr := xr_; clear xr_
      have xq_ : Box w11 (w2.heap.size) #[.slice tA tn tc, .slice A1 n1 c1, .slice none 0 0] 37 := (Box.b xq.drew b11)
      clear xq; have xq := xq_; clear xq_
      have xx_ : Box w11 (w9.heap.size) #[.int .i64 2, .int .i64 (m : Int), .int .i64 0] 74 := (Box.b xx.drew b11)
      clear xx; have xx := xx_; clear xx_
      refine ⟨_, rfl, ⟨xg.three.1, xg.three.2.1, xg.three.2.2.1, xx.three.1, xx.three.2.1, xx.three.2.2.1, (cellB g3h hcz)⟩, fun hS => ?_⟩
      (try simp only [Act.put, layA, layB, layC])
      refine on 12 ?_
      refine valueH (by go_simp; (first | done | with_reducible rfl | exact ⟨rfl, rfl⟩)) ?_ (fun hS_ => ?_)
      ·exact ⟨(xg.alloc _).three.1, (xg.alloc _).three.2.1, (xg.alloc _).three.2.2.1, (xx.alloc _).three.1, (xx.alloc _).three.2.1, (xx.alloc _).three.2.2.1, (cellB g3h hcz)⟩
      clear hS
      have hS := hS_
      clear hS_
      (try simp only [Act.put, layA, layB, layC])
      refine on 13 ?_
      refine appendH_L (.tmp 32) (.tmp 43) rfl rfl ((rc.alloc _)) rfl (Ints.new (g := w11.heap.size) _ [labelFor (nth gL1 k) gI0 (m : Int)] 3 (by simp) rfl) (by have := hcl.out; omega) ?_
      intro qA qn qc qlo qhi w12 rc_ drc c12
      have z12 := c12.size
      (try simp only [World.size_alloc, World.size_setCell, size_drew] at z12 drc)
      have B12 : Below w.heap.size w w12 := Below.trans (b := _) (by repeat (with_reducible (first | assumption | exact Below.refl _ _ | refine Below.alloc ?_ (by first | omega | (simp; done) | (simp; omega)) _ | refine Below.setCell ?_ (by first | omega | (simp; done) | (simp; omega)) _ | refine Below.drew ?_ | refine below_drewN ?_ _))) (c12.below (by omega) (by first | omega | (simp [size_drew]; done) | (simp [size_drew]; omega)))
      clear rc; have rc := rc_; clear rc_
      have rt_ := ((rt.alloc _)).away c12 (by omega)
      clear rt; have rt := rt_; clear rt_
      have xc_ : Box w12 (w.heap.size) #[.slice (some ⟨g, o, none⟩) cn0 cc0, (.slice cA1 cn1 cc1)] 27 := ((xc.alloc _)).chg c12 (by omega)
      clear xc; have xc := xc_; clear xc_
      have xg_ : Box w12 (w.heap.size + 1) #[.int .i64 gI0, .slice (some ⟨g3, g3o, none⟩) gn1 gc1, (.slice gA2 gn2 gc2)] 33 := ((xg.alloc _)).chg c12 (by omega)
      clear xg; have xg := xg_; clear xg_
      have xr_ : Box w12 (w.heap.size + 1 + 1) #[.slice none 0 0, .slice none 0 0, .slice none 0 0] 37 := ((xr.alloc _)).chg c12 (by omega)
      clear xr; have xr := xr_; clear xr_
      have xq_ : Box w12 (w2.heap.size) #[.slice tA tn tc, .slice A1 n1 c1, .slice none 0 0] 37 := ((xq.alloc _)).chg c12 (by omega)
      clear xq; have xq := xq_; clear xq_
      have xx_ : Box w12 (w9.heap.size) #[.int .i64 2, .int .i64 (m : Int), .int .i64 0] 74 := ((xx.alloc _)).chg c12 (by omega)
      clear xx; have xx := xx_; clear xx_
      have xl_ : Box w12 (w11.heap.size) #[.int .i64 (labelFor (nth gL1 k) gI0 (m : Int))] 3 := ((Box.new (g := w11.heap.size) _ #[.int .i64 (labelFor (nth gL1 k) gI0 (m : Int))] 3 (by simp))).chg c12 (by omega)
      have xl := xl_; clear xl_
      refine ⟨⟨xg.three.1, xg.three.2.1, xg.three.2.2.1, xx.three.1, xx.three.2.1, xx.three.2.2.1, (cellB g3h hcz)⟩, fun hS_ => ?_⟩
      clear hS; have hS := hS_; clear hS_
      (try simp only [Act.put, layA, layB, layC])
      (refine tk 14 hS ?_; (try simp only [Act.put, layA, layB, layC]))
      refine on 15 ?_
      obtain ⟨cxq_0, cxq_1, cxq_2, fxq_0, fxq_1, fxq_2⟩ := xq.three
      refine skipH (by go_simp; (first | done | with_reducible rfl | exact ⟨rfl, rfl⟩)) ?_ (fun hS_ => ?_)
      ·exact ⟨(xg.far (by omega)).three.1, (xg.far (by omega)).three.2.1, (xg.far (by omega)).three.2.2.1, (xx.far (by omega)).three.1, (xx.far (by omega)).three.2.1, (xx.far (by omega)).three.2.2.1, (cellB g3h hcz)⟩
      clear cxq_0 cxq_1 cxq_2 fxq_0 fxq_1 fxq_2
      clear hS
      have hS := hS_
      clear hS_
      (try simp only [Act.put, layA, layB, layC])
      clear hS
      refine wpAnyH_done (by kernel_rfl) ?_ _
      rw [← hC2.out] at rc
      go_wp2
      go_roundw
      case rel => exact ⟨k + 1, _, _, _, _, _, by omega, by go_num, (rt.setBox (by omega)), (rc.setBox (by omega)), by omega, by omega, (xc.far (by omega)), (xg.far (by omega)), (xr.far (by omega)), (xq.setAt (i := 1) (v := .slice qA qn qc) (ds := #[.slice tA tn tc, .slice qA qn qc, .slice none 0 0]) (by simp)), by repeat (with_reducible (first | assumption | exact Below.refl _ _ | refine Below.alloc ?_ (by first | omega | (simp; done) | (simp; omega)) _ | refine Below.setCell ?_ (by first | omega | (simp; done) | (simp; omega)) _ | refine Below.drew ?_ | refine below_drewN ?_ _))⟩
      case measure => simp [intOf]; omega
     ·refine callH (by go_simp; (first | done | with_reducible rfl | exact ⟨rfl, rfl⟩)) ?_
      go_at_call 90
      refine (iLabelFor_any _ _ _ _).mono ?_
      rintro e w11 ⟨rfl, b11⟩
      clear hS
      have z11 := Below.size b11
      (try simp only [World.size_alloc, World.size_setCell, size_drew] at z11)
      have B11 : Below w.heap.size w w11 := Below.t b11
      have rt_ := (rt.drew.below b11)
      clear rt; have rt := rt_; clear rt_
      have rc_ := (rc.drew.below b11)
      clear rc; have rc := rc_; clear rc_
      have xc_ : Box w11 (w.heap.size) #[.slice (some ⟨g, o, none⟩) cn0 cc0, (.slice cA1 cn1 cc1)] 27 := (Box.b xc.drew b11)
      clear xc; have xc := xc_; clear xc_
      have xg_ : Box w11 (w.heap.size + 1) #[.int .i64 gI0, .slice (some ⟨g3, g3o, none⟩) gn1 gc1, (.slice gA2 gn2 gc2)] 33 := (Box.b xg.drew b11)
      clear xg; have xg := xg_; clear xg_
      have xr_ : Box w11 (w.heap.size + 1 + 1) #[.slice none 0 0, .slice none 0 0, .slice none 0 0] 37 := (Box.b xr.drew b11)
      clear xr; have xr := xr_; clear xr_
      have xq_ : Box w11 (w2.heap.size) #[.slice tA tn tc, .slice A1 n1 c1, .slice none 0 0] 37 := (Box.b xq.drew b11)
      clear xq; have xq := xq_; clear xq_
      have xx_ : Box w11 (w9.heap.size) #[.int .i64 2, .int .i64 (m : Int), .int .i64 0] 74 := (Box.b xx.drew b11)
      clear xx; have xx := xx_; clear xx_
      refine ⟨_, rfl, ⟨xg.three.1, xg.three.2.1, xg.three.2.2.1, xx.three.1, xx.three.2.1, xx.three.2.2.1, (cellB g3h hcz)⟩, fun hS => ?_⟩
      (try simp only [Act.put, layA, layB, layC])
      refine forkH (i := 1) (j := 12) (by simp only [List.getElem?_toArray, List.getElem?_cons_succ, List.getElem?_cons_zero] <;> rfl) (by simp only [List.getElem?_toArray, List.getElem?_cons_succ, List.getElem?_cons_zero] <;> rfl) (by kernel_rfl) (by rfl) (by rfl) ?_ ?_
      ·obtain ⟨cxq_0, cxq_1, cxq_2, fxq_0, fxq_1, fxq_2⟩ := xq.three
       have l_xq_0 : w2.heap.size < w11.heap.size := by omega
       refine valueH (by go_simp; (first | done | with_reducible rfl | exact ⟨rfl, rfl⟩)) hS (fun hS => ?_)
       clear cxq_0 cxq_1 cxq_2 fxq_0 fxq_1 fxq_2 l_xq_0
       (try simp only [Act.put, layA, layB, layC])
       refine on 12 ?_
       refine valueH (by go_simp; (first | done | with_reducible rfl | exact ⟨rfl, rfl⟩)) ?_ (fun hS_ => ?_)
       ·exact ⟨(xg.alloc _).three.1, (xg.alloc _).three.2.1, (xg.alloc _).three.2.2.1, (xx.alloc _).three.1, (xx.alloc _).three.2.1, (xx.alloc _).three.2.2.1, (cellB g3h hcz)⟩
       clear hS
       have hS := hS_
       clear hS_
       (try simp only [Act.put, layA, layB, layC])
       refine on 13 ?_
       refine appendH_L (.tmp 32) (.tmp 43) rfl rfl ((rc.alloc _)) rfl (Ints.new (g := w11.heap.size) _ [labelFor (nth gL1 k) gI0 (m : Int)] 3 (by simp) rfl) (by have := hcl.out; omega) ?_
       intro qA qn qc qlo qhi w12 rc_ drc c12
       have z12 := c12.size
       (try simp only [World.size_alloc, World.size_setCell, size_drew] at z12 drc)
       have B12 : Below w.heap.size w w12 := Below.trans (b := _) (by repeat (with_reducible (first | assumption | exact Below.refl _ _ | refine Below.alloc ?_ (by first | omega | (simp; done) | (simp; omega)) _ | refine Below.setCell ?_ (by first | omega | (simp; done) | (simp; omega)) _ | refine Below.drew ?_ | refine below_drewN ?_ _))) (c12.below (by omega) (by first | omega | (simp [size_drew]; done) | (simp [size_drew]; omega)))
       clear rc; have rc := rc_; clear rc_
       have rt_ := ((rt.alloc _)).away c12 (by omega)
       clear rt; have rt := rt_; clear rt_
       have xc_ : Box w12 (w.heap.size) #[.slice (some ⟨g, o, none⟩) cn0 cc0, (.slice cA1 cn1 cc1)] 27 := ((xc.alloc _)).chg c12 (by omega)
       clear xc; have xc := xc_; clear xc_
       have xg_ : Box w12 (w.heap.size + 1) #[.int .i64 gI0, .slice (some ⟨g3, g3o, none⟩) gn1 gc1, (.slice gA2 gn2 gc2)] 33 := ((xg.alloc _)).chg c12 (by omega)
       clear xg; have xg := xg_; clear xg_
       have xr_ : Box w12 (w.heap.size + 1 + 1) #[.slice none 0 0, .slice none 0 0, .slice none 0 0] 37 := ((xr.alloc _)).chg c12 (by omega)
       clear xr; have xr := xr_; clear xr_
       have xq_ : Box w12 (w2.heap.size) #[.slice tA tn tc, .slice A1 n1 c1, .slice none 0 0] 37 := ((xq.alloc _)).chg c12 (by omega)
       clear xq; have xq := xq_; clear xq_
       have xx_ : Box w12 (w9.heap.size) #[.int .i64 2, .int .i64 (m : Int), .int .i64 0] 74 := ((xx.alloc _)).chg c12 (by omega)
       clear xx; have xx := xx_; clear xx_
       have xl_ : Box w12 (w11.heap.size) #[.int .i64 (labelFor (nth gL1 k) gI0 (m : Int))] 3 := ((Box.new (g := w11.heap.size) _ #[.int .i64 (labelFor (nth gL1 k) gI0 (m : Int))] 3 (by simp))).chg c12 (by omega)
       have xl := xl_; clear xl_
       refine ⟨⟨xg.three.1, xg.three.2.1, xg.three.2.2.1, xx.three.1, xx.three.2.1, xx.three.2.2.1, (cellB g3h hcz)⟩, fun hS_ => ?_⟩
       clear hS; have hS := hS_; clear hS_
       (try simp only [Act.put, layA, layB, layC])
       (refine tk 14 hS ?_; (try simp only [Act.put, layA, layB, layC]))
       refine on 15 ?_
       obtain ⟨cxq_0, cxq_1, cxq_2, fxq_0, fxq_1, fxq_2⟩ := xq.three
       refine skipH (by go_simp; (first | done | with_reducible rfl | exact ⟨rfl, rfl⟩)) ?_ (fun hS_ => ?_)
       ·exact ⟨(xg.far (by omega)).three.1, (xg.far (by omega)).three.2.1, (xg.far (by omega)).three.2.2.1, (xx.far (by omega)).three.1, (xx.far (by omega)).three.2.1, (xx.far (by omega)).three.2.2.1, (cellB g3h hcz)⟩
       clear cxq_0 cxq_1 cxq_2 fxq_0 fxq_1 fxq_2
       clear hS
       have hS := hS_
       clear hS_
       (try simp only [Act.put, layA, layB, layC])
       clear hS
       refine wpAnyH_done (by kernel_rfl) ?_ _
       rw [← hC2.out] at rc
       go_wp2
       go_roundw
       case rel => exact ⟨k + 1, _, _, _, _, _, by omega, by go_num, (rt.setBox (by omega)), (rc.setBox (by omega)), by omega, by omega, (xc.far (by omega)), (xg.far (by omega)), (xr.far (by omega)), (xq.setAt (i := 1) (v := .slice qA qn qc) (ds := #[.slice tA tn tc, .slice qA qn qc, .slice none 0 0]) (by simp)), by repeat (with_reducible (first | assumption | exact Below.refl _ _ | refine Below.alloc ?_ (by first | omega | (simp; done) | (simp; omega)) _ | refine Below.setCell ?_ (by first | omega | (simp; done) | (simp; omega)) _ | refine Below.drew ?_ | refine below_drewN ?_ _))⟩
       case measure => simp [intOf]; omega
      ·refine valueH (by go_simp; (first | done | with_reducible rfl | exact ⟨rfl, rfl⟩)) ?_ (fun hS_ => ?_)
       ·exact ⟨(xg.alloc _).three.1, (xg.alloc _).three.2.1, (xg.alloc _).three.2.2.1, (xx.alloc _).three.1, (xx.alloc _).three.2.1, (xx.alloc _).three.2.2.1, (cellB g3h hcz)⟩
       clear hS
       have hS := hS_
       clear hS_
       (try simp only [Act.put, layA, layB, layC])
       refine on 1 ?_
       obtain ⟨cxq_0, cxq_1, cxq_2, fxq_0, fxq_1, fxq_2⟩ := xq.three
       have l_xq_0 : w2.heap.size < w11.heap.size := by omega
       have l_xq_1 : w2.heap.size < w11.heap.size + 1 := by omega
       refine valueH (by go_simp; (first | done | with_reducible rfl | exact ⟨rfl, rfl⟩)) hS (fun hS => ?_)
       clear cxq_0 cxq_1 cxq_2 fxq_0 fxq_1 fxq_2 l_xq_0 l_xq_1
       (try simp only [Act.put, layA, layB, layC])
       refine on 13 ?_
       refine appendH_L (.tmp 32) (.tmp 43) rfl rfl ((rc.alloc _)) rfl (Ints.new (g := w11.heap.size) _ [labelFor (nth gL1 k) gI0 (m : Int)] 3 (by simp) rfl) (by have := hcl.out; omega) ?_
       intro qA qn qc qlo qhi w12 rc_ drc c12
       have z12 := c12.size
       (try simp only [World.size_alloc, World.size_setCell, size_drew] at z12 drc)
       have B12 : Below w.heap.size w w12 := Below.trans (b := _) (by repeat (with_reducible (first | assumption | exact Below.refl _ _ | refine Below.alloc ?_ (by first | omega | (simp; done) | (simp; omega)) _ | refine Below.setCell ?_ (by first | omega | (simp; done) | (simp; omega)) _ | refine Below.drew ?_ | refine below_drewN ?_ _))) (c12.below (by omega) (by first | omega | (simp [size_drew]; done) | (simp [size_drew]; omega)))
       clear rc; have rc := rc_; clear rc_
       have rt_ := ((rt.alloc _)).away c12 (by omega)
       clear rt; have rt := rt_; clear rt_
       have xc_ : Box w12 (w.heap.size) #[.slice (some ⟨g, o, none⟩) cn0 cc0, (.slice cA1 cn1 cc1)] 27 := ((xc.alloc _)).chg c12 (by omega)
       clear xc; have xc := xc_; clear xc_
       have xg_ : Box w12 (w.heap.size + 1) #[.int .i64 gI0, .slice (some ⟨g3, g3o, none⟩) gn1 gc1, (.slice gA2 gn2 gc2)] 33 := ((xg.alloc _)).chg c12 (by omega)
       clear xg; have xg := xg_; clear xg_
       have xr_ : Box w12 (w.heap.size + 1 + 1) #[.slice none 0 0, .slice none 0 0, .slice none 0 0] 37 := ((xr.alloc _)).chg c12 (by omega)
       clear xr; have xr := xr_; clear xr_
       have xq_ : Box w12 (w2.heap.size) #[.slice tA tn tc, .slice A1 n1 c1, .slice none 0 0] 37 := ((xq.alloc _)).chg c12 (by omega)
       clear xq; have xq := xq_; clear xq_
       have xx_ : Box w12 (w9.heap.size) #[.int .i64 2, .int .i64 (m : Int), .int .i64 0] 74 := ((xx.alloc _)).chg c12 (by omega)
       clear xx; have xx := xx_; clear xx_
       have xl_ : Box w12 (w11.heap.size) #[.int .i64 (labelFor (nth gL1 k) gI0 (m : Int))] 3 := ((Box.new (g := w11.heap.size) _ #[.int .i64 (labelFor (nth gL1 k) gI0 (m : Int))] 3 (by simp))).chg c12 (by omega)
       have xl := xl_; clear xl_
       refine ⟨⟨xg.three.1, xg.three.2.1, xg.three.2.2.1, xx.three.1, xx.three.2.1, xx.three.2.2.1, (cellB g3h hcz)⟩, fun hS_ => ?_⟩
       clear hS; have hS := hS_; clear hS_
       (try simp only [Act.put, layA, layB, layC])
       (refine tk 14 hS ?_; (try simp only [Act.put, layA, layB, layC]))
       refine on 15 ?_
       obtain ⟨cxq_0, cxq_1, cxq_2, fxq_0, fxq_1, fxq_2⟩ := xq.three
       refine skipH (by go_simp; (first | done | with_reducible rfl | exact ⟨rfl, rfl⟩)) ?_ (fun hS_ => ?_)
       ·exact ⟨(xg.far (by omega)).three.1, (xg.far (by omega)).three.2.1, (xg.far (by omega)).three.2.2.1, (xx.far (by omega)).three.1, (xx.far (by omega)).three.2.1, (xx.far (by omega)).three.2.2.1, (cellB g3h hcz)⟩
       clear cxq_0 cxq_1 cxq_2 fxq_0 fxq_1 fxq_2
       clear hS
       have hS := hS_
       clear hS_
       (try simp only [Act.put, layA, layB, layC])
       clear hS
       refine wpAnyH_done (by kernel_rfl) ?_ _
       rw [← hC2.out] at rc
       go_wp2
       go_roundw
       case rel => exact ⟨k + 1, _, _, _, _, _, by omega, by go_num, (rt.setBox (by omega)), (rc.setBox (by omega)), by omega, by omega, (xc.far (by omega)), (xg.far (by omega)), (xr.far (by omega)), (xq.setAt (i := 1) (v := .slice qA qn qc) (ds := #[.slice tA tn tc, .slice qA qn qc, .slice none 0 0]) (by simp)), by repeat (with_reducible (first | assumption | exact Below.refl _ _ | refine Below.alloc ?_ (by first | omega | (simp; done) | (simp; omega)) _ | refine Below.setCell ?_ (by first | omega | (simp; done) | (simp; omega)) _ | refine Below.drew ?_ | refine below_drewN ?_ _))⟩
       case measure => simp [intOf]; omega
    ·rw [hgt] at d0 d1 d2
     dsimp only at d0 d1 d2
     have hG := Lib.hid hgt
     clear hgt
     have e0 : w9.cell? ⟨g, o + k * 3, none⟩ = some (.int .i64 3) := (cellB hg d0)
     have e0_l : g < w9.heap.size := by omega
     have e1 : w9.cell? ⟨g, o + k * 3 + 1, none⟩ = some (.int .i64 (m : Int)) := (cellB hg d1)
     have e1_l : g < w9.heap.size := by omega
     have e2 : w9.cell? ⟨g, o + k * 3 + 2, none⟩ = some (.int .i64 (j : Int)) := (cellB hg d2)
     have e2_l : g < w9.heap.size := by omega
     have hC2 := Lib.hid (show cstL gI0 gL1 cL0 (k + 1) = cstL gI0 gL1 cL0 k by rw [cstL, hG.out, if_neg (by show ¬ (3 : Int) = 2; decide), List.append_nil])
     obtain ⟨cxc_0, cxc_1, fxc_0, fxc_1⟩ := xc.two
     have l_xc_0 : w.heap.size < w9.heap.size := by omega
     have l_xc_1 : w.heap.size < w9.heap.size + 1 := by omega
     go_wp2
     rw [← hC2.out] at rc
     go_roundw
     case rel => exact ⟨k + 1, _, _, _, _, _, by omega, by go_num, (rt.alloc _), (rc.alloc _), by omega, by omega, (xc.alloc _), (xg.alloc _), (xr.alloc _), (xq.alloc _), by repeat (with_reducible (first | assumption | exact Below.refl _ _ | refine Below.alloc ?_ (by first | omega | (simp; done) | (simp; omega)) _ | refine Below.setCell ?_ (by first | omega | (simp; done) | (simp; omega)) _ | refine Below.drew ?_ | refine below_drewN ?_ _))⟩
     case measure => simp [intOf]; omega
    ·rw [hgt] at d0 d1 d2
     dsimp only at d0 d1 d2
     have hG := Lib.hid hgt
     clear hgt
     have e0 : w9.cell? ⟨g, o + k * 3, none⟩ = some (.int .i64 4) := (cellB hg d0)
     have e0_l : g < w9.heap.size := by omega
     have e1 : w9.cell? ⟨g, o + k * 3 + 1, none⟩ = some (.int .i64 (m : Int)) := (cellB hg d1)
     have e1_l : g < w9.heap.size := by omega
     have e2 : w9.cell? ⟨g, o + k * 3 + 2, none⟩ = some (.int .i64 (j : Int)) := (cellB hg d2)
     have e2_l : g < w9.heap.size := by omega
     have hC2 := Lib.hid (show cstL gI0 gL1 cL0 (k + 1) = cstL gI0 gL1 cL0 k by rw [cstL, hG.out, if_neg (by show ¬ (4 : Int) = 2; decide), List.append_nil])
     obtain ⟨cxc_0, cxc_1, fxc_0, fxc_1⟩ := xc.two
     have l_xc_0 : w.heap.size < w9.heap.size := by omega
     have l_xc_1 : w.heap.size < w9.heap.size + 1 := by omega
     go_wp2
     rw [← hC2.out] at rc
     go_roundw
     case rel => exact ⟨k + 1, _, _, _, _, _, by omega, by go_num, (rt.alloc _), (rc.alloc _), by omega, by omega, (xc.alloc _), (xg.alloc _), (xr.alloc _), (xq.alloc _), by repeat (with_reducible (first | assumption | exact Below.refl _ _ | refine Below.alloc ?_ (by first | omega | (simp; done) | (simp; omega)) _ | refine Below.setCell ?_ (by first | omega | (simp; done) | (simp; omega)) _ | refine Below.drew ?_ | refine below_drewN ?_ _))⟩
     case measure => simp [intOf]; omega
    ·rw [hgt] at d0 d1 d2
     dsimp only at d0 d1 d2
     have hG := Lib.hid hgt
     clear hgt
     have e0 : w9.cell? ⟨g, o + k * 3, none⟩ = some (.int .i64 5) := (cellB hg d0)
     have e0_l : g < w9.heap.size := by omega
     have e1 : w9.cell? ⟨g, o + k * 3 + 1, none⟩ = some (.int .i64 (m : Int)) := (cellB hg d1)
     have e1_l : g < w9.heap.size := by omega
     have e2 : w9.cell? ⟨g, o + k * 3 + 2, none⟩ = some (.int .i64 0) := (cellB hg d2)
     have e2_l : g < w9.heap.size := by omega
     have hC2 := Lib.hid (show cstL gI0 gL1 cL0 (k + 1) = cstL gI0 gL1 cL0 k by rw [cstL, hG.out, if_neg (by show ¬ (5 : Int) = 2; decide), List.append_nil])
     obtain ⟨cxc_0, cxc_1, fxc_0, fxc_1⟩ := xc.two
     have l_xc_0 : w.heap.size < w9.heap.size := by omega
     have l_xc_1 : w.heap.size < w9.heap.size + 1 := by omega
     go_wp2
     rw [← hC2.out] at rc
     go_roundw
     case rel => exact ⟨k + 1, _, _, _, _, _, by omega, by go_num, (rt.alloc _), (rc.alloc _), by omega, by omega, (xc.alloc _), (xg.alloc _), (xr.alloc _), (xq.alloc _), by repeat (with_reducible (first | assumption | exact Below.refl _ _ | refine Below.alloc ?_ (by first | omega | (simp; done) | (simp; omega)) _ | refine Below.setCell ?_ (by first | omega | (simp; done) | (simp; omega)) _ | refine Below.drew ?_ | refine below_drewN ?_ _))⟩
     case measure => simp [intOf]; omega
   ·obtain ⟨cxc_0, cxc_1, fxc_0, fxc_1⟩ := xc.two
    have l_xc_0 : w.heap.size < w9.heap.size := by omega
    go_wp2_with fail
    clear cxc_0 cxc_1 fxc_0 fxc_1 l_xc_0
    have hkn : k = cn0 := by omega
    rw [hkn] at rc
    clear hcl hc2 hlt hk hkn
    go_loopw [50] (fun i wr => ∃ (j : Nat) (A2 : Option Addr) (n2 c2 l2 h2 : Nat), j ≤ cn1 ∧ i = .int .i64 j ∧ Hid (OwnL wr w1.heap.size w2.heap.size [(.slice tA tn tc, .ints gL2)]) ∧ Hid (OwnL wr l1 h1 [(.slice A1 n1 c1, .ints (cstL gI0 gL1 cL0 cn0))]) ∧ Hid (OwnL wr l2 h2 [(.slice A2 n2 c2, .ints (genL (pdF cL1 gL1) j))]) ∧ (w2.heap.size ≤ l2 ∨ h2 ≤ w1.heap.size) ∧ (h1 ≤ l2 ∨ h2 ≤ l1) ∧ w2.heap.size < l2 ∧ Hid (Box wr (w.heap.size) #[(.slice cA0 cn0 cc0), (.slice cA1 cn1 cc1)] 27) ∧ Hid (Box wr (w.heap.size + 1) #[.int .i64 gI0, (.slice gA1 gn1 gc1), (.slice gA2 gn2 gc2)] 33) ∧ Hid (Box wr (w.heap.size + 1 + 1) #[.slice none 0 0, .slice none 0 0, .slice none 0 0] 37) ∧ Hid (Box wr (w2.heap.size) #[.slice tA tn tc, .slice A1 n1 c1, .slice A2 n2 c2] 37) ∧ Below w.heap.size w wr) (fun i wr => cn1 - (intOf i).toNat)
    case atStart => exact ⟨0, none, 0, 0, _, _, by omega, rfl, rt, rc, OwnL.nones (lo := w9.heap.size) [(.slice none 0 0, .ints [])] (by simp) (Nat.le_refl _), by omega, by omega, by omega, xc, xg, xr, xq, B9⟩
    case round =>
     obtain ⟨j, A2, n2, c2, l2, h2, hj, rfl, rt, rc, rd, hd2, hd3, hl2, xc, xg, xr, xq, B8⟩ := hrel
     obtain ⟨w8, hw8⟩ : ∃ x, x = wr := ⟨wr, rfl⟩
     subst hw8
     have rt := rt.out
     have rc := rc.out
     have rd := rd.out
     have xc := xc.out
     have zb8_xc := xc.lt
     have xg := xg.out
     have zb8_xg := xg.lt
     have xr := xr.out
     have zb8_xr := xr.lt
     have xq := xq.out
     have zb8_xq := xq.lt
     have hsn := Lib.hid (genL_snoc (pdF cL1 gL1) j)
     have hgl := Lib.hid (genL_len (pdF cL1 gL1) j)
     have z8 := B8.size
     have hr3 := rd.1
     have hr4 := rd.2.1
     have hr5 := rc.2.1
     have hr6 := rt.2.1
     by_cases hlt : j < cn1
     ·obtain ⟨m, hm, hmlt⟩ := circ_out HK.out (k := j) (by rw [cL1l.out]; exact hlt)
      have hm1 := Lib.hid hm
      have hmlt : m < cn0 := by rw [← cL0l.out]; exact hmlt
      obtain ⟨g, o, rfl, hg, hc⟩ := HO.out.block (by omega)
      have hco := hc j hlt
      clear hc
      rw [hm1.out] at hco
      clear hm
      have hmz : m < gn1 := by have := hzn.out; omega
      obtain ⟨g3, g3o, rfl, g3h, hc⟩ := HZ.out.block (by omega)
      have hcz := hc m (by omega)
      clear hc
      have hF := Lib.hid (show pdF cL1 gL1 j = bits .and .i64 (nth gL1 m) 1 by rw [pdF, hm1.out]; rfl)
      have h7 : w8.cell? ⟨g, o + j, none⟩ = some (.int .i64 (m : Int)) := (cellB hg hco)
      have h7_l : g < w8.heap.size := by omega
      obtain ⟨cxc_0, cxc_1, fxc_0, fxc_1⟩ := xc.two
      have l_xc_0 : w.heap.size < w8.heap.size := by omega
      obtain ⟨cxg_0, cxg_1, cxg_2, fxg_0, fxg_1, fxg_2⟩ := xg.three
      have l_xg_0 : w.heap.size + 1 < w8.heap.size := by omega
      go_wp2_with fail
      clear cxc_0 cxc_1 fxc_0 fxc_1 l_xc_0 cxg_0 cxg_1 cxg_2 fxg_0 fxg_1 fxg_2 l_xg_0
      refine wp_region_held_drew (S := fun W => W.cell? ⟨w.heap.size + 1, 0, none⟩ = some (.int .i64 gI0) ∧ W.cell? ⟨w.heap.size + 1, 1, none⟩ = some (.slice (some ⟨g3, g3o, none⟩) gn1 gc1) ∧ W.cell? ⟨w.heap.size + 1, 2, none⟩ = some ((.slice gA2 gn2 gc2)) ∧ W.cell? ⟨g3, g3o + m, none⟩ = some (.int .i64 (nth gL1 m))) (by kernel_rfl) ⟨xg.drew.three.1, xg.drew.three.2.1, xg.drew.three.2.2.1, (cellB g3h hcz)⟩ (fun hS => ?_)
      (refine tk 0 hS ?_; (try simp only [Act.put, layA, layB, layC]))
      (refine tk 2 hS ?_; (try simp only [Act.put, layA, layB, layC]))
      (refine tk 3 hS ?_; (try simp only [Act.put, layA, layB, layC]))
      (refine tk 4 hS ?_; (try simp only [Act.put, layA, layB, layC]))
      (refine tk 5 hS ?_; (try simp only [Act.put, layA, layB, layC]))
      (refine tk 6 hS ?_; (try simp only [Act.put, layA, layB, layC]))
      (refine tk 7 hS ?_; (try simp only [Act.put, layA, layB, layC]))
      refine forkH (i := 1) (j := 8) (by simp only [List.getElem?_toArray, List.getElem?_cons_succ, List.getElem?_cons_zero] <;> rfl) (by simp only [List.getElem?_toArray, List.getElem?_cons_succ, List.getElem?_cons_zero] <;> rfl) (by kernel_rfl) (by rfl) (by rfl) ?_ ?_
      ·obtain ⟨cxq_0, cxq_1, cxq_2, fxq_0, fxq_1, fxq_2⟩ := xq.three
       have l_xq_0 : w2.heap.size < w8.heap.size := by omega
       refine valueH (by go_simp; (first | done | with_reducible rfl | exact ⟨rfl, rfl⟩)) hS (fun hS => ?_)
       clear cxq_0 cxq_1 cxq_2 fxq_0 fxq_1 fxq_2 l_xq_0
       (try simp only [Act.put, layA, layB, layC])
       refine on 8 ?_
       refine valueH (by go_simp; (first | done | with_reducible rfl | exact ⟨rfl, rfl⟩)) ?_ (fun hS_ => ?_)
       ·exact ⟨(xg.alloc _).drew.three.1, (xg.alloc _).drew.three.2.1, (xg.alloc _).drew.three.2.2.1, (cellB g3h hcz)⟩
       clear hS
       have hS := hS_
       clear hS_
       (try simp only [Act.put, layA, layB, layC])
       refine on 9 ?_
       refine appendH_L (.tmp 55) (.tmp 62) rfl rfl ((rd.alloc _).drew) rfl (Ints.new (g := w8.heap.size) _ [bits .and .i64 (nth gL1 m) 1] 3 (by simp) rfl).drew (by have := hgl.out; omega) ?_
       intro qA qn qc qlo qhi w9 rd_ drd c9
       have z9 := c9.size
       (try simp only [World.size_alloc, World.size_setCell, size_drew] at z9 drd)
       have B9 : Below w.heap.size w w9 := Below.trans (b := _) (by repeat (with_reducible (first | assumption | exact Below.refl _ _ | refine Below.alloc ?_ (by first | omega | (simp; done) | (simp; omega)) _ | refine Below.setCell ?_ (by first | omega | (simp; done) | (simp; omega)) _ | refine Below.drew ?_ | refine below_drewN ?_ _))) (c9.below (by omega) (by first | omega | (simp [size_drew]; done) | (simp [size_drew]; omega)))
       clear rd; have rd := rd_; clear rd_
       have rt_ := ((rt.alloc _).drew).away c9 (by omega)
       clear rt; have rt := rt_; clear rt_
       have rc_ := ((rc.alloc _).drew).away c9 (by omega)
       clear rc; have rc := rc_; clear rc_
       have xc_ : Box w9 (w.heap.size) #[(.slice cA0 cn0 cc0), .slice (some ⟨g, o, none⟩) cn1 cc1] 27 := ((xc.alloc _).drew).chg c9 (by omega)
       clear xc; have xc := xc_; clear xc_
       have xg_ : Box w9 (w.heap.size + 1) #[.int .i64 gI0, .slice (some ⟨g3, g3o, none⟩) gn1 gc1, (.slice gA2 gn2 gc2)] 33 := ((xg.alloc _).drew).chg c9 (by omega)
       clear xg; have xg := xg_; clear xg_
       have xr_ : Box w9 (w.heap.size + 1 + 1) #[.slice none 0 0, .slice none 0 0, .slice none 0 0] 37 := ((xr.alloc _).drew).chg c9 (by omega)
       clear xr; have xr := xr_; clear xr_
       have xq_ : Box w9 (w2.heap.size) #[.slice tA tn tc, .slice A1 n1 c1, .slice A2 n2 c2] 37 := ((xq.alloc _).drew).chg c9 (by omega)
       clear xq; have xq := xq_; clear xq_
       have xl_ : Box w9 (w8.heap.size) #[.int .i64 (bits .and .i64 (nth gL1 m) 1)] 3 := ((Box.new (g := w8.heap.size) _ #[.int .i64 (bits .and .i64 (nth gL1 m) 1)] 3 (by simp)).drew).chg c9 (by omega)
       have xl := xl_; clear xl_
       refine ⟨⟨xg.three.1, xg.three.2.1, xg.three.2.2.1, (cellB g3h hcz)⟩, fun hS_ => ?_⟩
       clear hS; have hS := hS_; clear hS_
       (try simp only [Act.put, layA, layB, layC])
       (refine tk 10 hS ?_; (try simp only [Act.put, layA, layB, layC]))
       refine on 11 ?_
       obtain ⟨cxq_0, cxq_1, cxq_2, fxq_0, fxq_1, fxq_2⟩ := xq.three
       refine skipH (by go_simp; (first | done | with_reducible rfl | exact ⟨rfl, rfl⟩)) ?_ (fun hS_ => ?_)
       ·exact ⟨(xg.far (by omega)).three.1, (xg.far (by omega)).three.2.1, (xg.far (by omega)).three.2.2.1, (cellB g3h hcz)⟩
       clear cxq_0 cxq_1 cxq_2 fxq_0 fxq_1 fxq_2
       clear hS
       have hS := hS_
       clear hS_
       (try simp only [Act.put, layA, layB, layC])
       clear hS
       refine wpAnyH_done (by kernel_rfl) ?_ _
       rw [← hF.out, ← hsn.out] at rd
       go_wp2
       go_roundw
       case rel => exact ⟨j + 1, _, _, _, _, _, by omega, by go_num, (rt.setBox (by omega)), (rc.setBox (by omega)), (rd.setBox (by omega)), by omega, by omega, by omega, (xc.far (by omega)), (xg.far (by omega)), (xr.far (by omega)), (xq.setAt (i := 2) (v := .slice qA qn qc) (ds := #[.slice tA tn tc, .slice A1 n1 c1, .slice qA qn qc]) (by simp)), by repeat (with_reducible (first | assumption | exact Below.refl _ _ | refine Below.alloc ?_ (by first | omega | (simp; done) | (simp; omega)) _ | refine Below.setCell ?_ (by first | omega | (simp; done) | (simp; omega)) _ | refine Below.drew ?_ | refine below_drewN ?_ _))⟩
       case measure => simp [intOf]; omega
      ·refine valueH (by go_simp; (first | done | with_reducible rfl | exact ⟨rfl, rfl⟩)) ?_ (fun hS_ => ?_)
       ·exact ⟨(xg.alloc _).drew.three.1, (xg.alloc _).drew.three.2.1, (xg.alloc _).drew.three.2.2.1, (cellB g3h hcz)⟩
       clear hS
       have hS := hS_
       clear hS_
       (try simp only [Act.put, layA, layB, layC])
       refine on 1 ?_
       obtain ⟨cxq_0, cxq_1, cxq_2, fxq_0, fxq_1, fxq_2⟩ := xq.three
       have l_xq_0 : w2.heap.size < w8.heap.size := by omega
       have l_xq_1 : w2.heap.size < w8.heap.size + 1 := by omega
       refine valueH (by go_simp; (first | done | with_reducible rfl | exact ⟨rfl, rfl⟩)) hS (fun hS => ?_)
       clear cxq_0 cxq_1 cxq_2 fxq_0 fxq_1 fxq_2 l_xq_0 l_xq_1
       (try simp only [Act.put, layA, layB, layC])
       refine on 9 ?_
       refine appendH_L (.tmp 55) (.tmp 62) rfl rfl ((rd.alloc _).drew) rfl (Ints.new (g := w8.heap.size) _ [bits .and .i64 (nth gL1 m) 1] 3 (by simp) rfl).drew (by have := hgl.out; omega) ?_
       intro qA qn qc qlo qhi w9 rd_ drd c9
       have z9 := c9.size
       (try simp only [World.size_alloc, World.size_setCell, size_drew] at z9 drd)
       have B9 : Below w.heap.size w w9 := Below.trans (b := _) (by repeat (with_reducible (first | assumption | exact Below.refl _ _ | refine Below.alloc ?_ (by first | omega | (simp; done) | (simp; omega)) _ | refine Below.setCell ?_ (by first | omega | (simp; done) | (simp; omega)) _ | refine Below.drew ?_ | refine below_drewN ?_ _))) (c9.below (by omega) (by first | omega | (simp [size_drew]; done) | (simp [size_drew]; omega)))
       clear rd; have rd := rd_; clear rd_
       have rt_ := ((rt.alloc _).drew).away c9 (by omega)
       clear rt; have rt := rt_; clear rt_
       have rc_ := ((rc.alloc _).drew).away c9 (by omega)
       clear rc; have rc := rc_; clear rc_
       have xc_ : Box w9 (w.heap.size) #[(.slice cA0 cn0 cc0), .slice (some ⟨g, o, none⟩) cn1 cc1] 27 := ((xc.alloc _).drew).chg c9 (by omega)
       clear xc; have xc := xc_; clear xc_
       have xg_ : Box w9 (w.heap.size + 1) #[.int .i64 gI0, .slice (some ⟨g3, g3o, none⟩) gn1 gc1, (.slice gA2 gn2 gc2)] 33 := ((xg.alloc _).drew).chg c9 (by omega)
       clear xg; have xg := xg_; clear xg_
       have xr_ : Box w9 (w.heap.size + 1 + 1) #[.slice none 0 0, .slice none 0 0, .slice none 0 0] 37 := ((xr.alloc _).drew).chg c9 (by omega)
       clear xr; have xr := xr_; clear xr_
       have xq_ : Box w9 (w2.heap.size) #[.slice tA tn tc, .slice A1 n1 c1, .slice A2 n2 c2] 37 := ((xq.alloc _).drew).chg c9 (by omega)
       clear xq; have xq := xq_; clear xq_
       have xl_ : Box w9 (w8.heap.size) #[.int .i64 (bits .and .i64 (nth gL1 m) 1)] 3 := ((Box.new (g := w8.heap.size) _ #[.int .i64 (bits .and .i64 (nth gL1 m) 1)] 3 (by simp)).drew).chg c9 (by omega)
       have xl := xl_; clear xl_
       refine ⟨⟨xg.three.1, xg.three.2.1, xg.three.2.2.1, (cellB g3h hcz)⟩, fun hS_ => ?_⟩
       clear hS; have hS := hS_; clear hS_
       (try simp only [Act.put, layA, layB, layC])
       (refine tk 10 hS ?_; (try simp only [Act.put, layA, layB, layC]))
       refine on 11 ?_
       obtain ⟨cxq_0, cxq_1, cxq_2, fxq_0, fxq_1, fxq_2⟩ := xq.three
       refine skipH (by go_simp; (first | done | with_reducible rfl | exact ⟨rfl, rfl⟩)) ?_ (fun hS_ => ?_)
       ·exact ⟨(xg.far (by omega)).three.1, (xg.far (by omega)).three.2.1, (xg.far (by omega)).three.2.2.1, (cellB g3h hcz)⟩
       clear cxq_0 cxq_1 cxq_2 fxq_0 fxq_1 fxq_2
       clear hS
       have hS := hS_
       clear hS_
       (try simp only [Act.put, layA, layB, layC])
       clear hS
       refine wpAnyH_done (by kernel_rfl) ?_ _
       rw [← hF.out, ← hsn.out] at rd
       go_wp2
       go_roundw
       case rel => exact ⟨j + 1, _, _, _, _, _, by omega, by go_num, (rt.setBox (by omega)), (rc.setBox (by omega)), (rd.setBox (by omega)), by omega, by omega, by omega, (xc.far (by omega)), (xg.far (by omega)), (xr.far (by omega)), (xq.setAt (i := 2) (v := .slice qA qn qc) (ds := #[.slice tA tn tc, .slice A1 n1 c1, .slice qA qn qc]) (by simp)), by repeat (with_reducible (first | assumption | exact Below.refl _ _ | refine Below.alloc ?_ (by first | omega | (simp; done) | (simp; omega)) _ | refine Below.setCell ?_ (by first | omega | (simp; done) | (simp; omega)) _ | refine Below.drew ?_ | refine below_drewN ?_ _))⟩
       case measure => simp [intOf]; omega
     ·have hjn : j = cn1 := by omega
      obtain ⟨cxc_0, cxc_1, fxc_0, fxc_1⟩ := xc.two
      have l_xc_0 : w.heap.size < w8.heap.size := by omega
      obtain ⟨cxq_0, cxq_1, cxq_2, fxq_0, fxq_1, fxq_2⟩ := xq.three
      have l_xq_0 : w2.heap.size < w8.heap.size := by omega
      obtain ⟨cxr_0, cxr_1, cxr_2, fxr_0, fxr_1, fxr_2⟩ := xr.three
      have l_xr_0 : w.heap.size + 1 + 1 < w8.heap.size := by omega
      go_wp2
      refine bodyPost_ret (v := .tuple #[.agg #[.slice tA tn tc, .slice A1 n1 c1, .slice A2 n2 c2], .bool true]) (by simp [results, Try.results25, go_sem, cxc_0, cxc_1, fxc_0, fxc_1, l_xc_0, cxq_0, cxq_1, cxq_2, fxq_0, fxq_1, fxq_2, l_xq_0, cxr_0, cxr_1, cxr_2, fxr_0, fxr_1, fxr_2, l_xr_0]) rfl ⟨tA, tn, tc, A1, n1, c1, A2, n2, c2, rfl, ?_, ?_⟩
      ·have R := OwnL.three (B := w.heap.size + 1 + 1 + 1) rt rc rd (by omega) (by omega) (by omega) (by omega) (by omega) (by omega)
       rw [puT_yes HO2.out, puC_yes HO2.out, puD_yes HO2.out, cL0l.out, cL1l.out, ← hjn]
       exact OwnL.mono (((R.setBox (by omega)).setBox (by omega)).setBox (by omega)) (by omega) (by first | omega | (simp [size_drew]; done) | (simp [size_drew]; omega)) (Nat.le_refl _)
      ·repeat (with_reducible (first | assumption | exact Below.refl _ _ | refine Below.alloc ?_ (by first | omega | (simp; done) | (simp; omega)) _ | refine Below.setCell ?_ (by first | omega | (simp; done) | (simp; omega)) _ | refine Below.drew ?_ | refine below_drewN ?_ _))
end Go.Proofs.Ytodnahpegecpiaa

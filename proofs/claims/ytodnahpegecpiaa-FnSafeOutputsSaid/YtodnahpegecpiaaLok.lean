/- Contracts of GarbledOk and PublicOk. Printed by mac2.py. -/
import Derived.Test.YtodnahpegecpiaaCok2
namespace Go.Proofs.Ytodnahpegecpiaa
set_option linter.unusedSimpArgs false
set_option linter.unusedVariables false
open Go.RowKit
def labelsOk (l : List Int) (n : Int) : Bool := allLab l && ((l.length : Int) == n)
def gbOk (l : List (Int × Int × Int)) (o : List Int) (d : Int) (zs ts : List Int) : Bool :=
 circOk l o && lab d && (bits .and .i64 d 1 == 1) && labelsOk zs (l.length : Int) && labelsOk ts (2 * ((countG l 4 : Nat) : Int))
def pbOk (l : List (Int × Int × Int)) (o ts cs ds : List Int) : Bool :=
 circOk l o && labelsOk ts (2 * ((countG l 4 : Nat) : Int)) && labelsOk cs ((countG l 2 : Nat) : Int) && bitsOk ds (o.length : Int)
set_option maxRecDepth 100000 in
theorem l18Labels_any (A : Option Addr) (n c : Nat) (l : List Int) (m : Int) (w : World) (h : Ints w A n l) (hn : n ≤ 1099511627776) :
  Calls Try.prog 113 #[.slice A n c, .int .i64 m] w fun e w' => e = .returned (.bool (labelsOk l m)) ∧ w = w' := by
 have hl := Lib.hid h.len
 go_enter Try.func113, Try.ntmps113
 go_wp2
 go_loop [5] (fun i => ∃ k : Nat, k ≤ n ∧ i = .int .i64 k ∧ (l.take k).all lab = true) (fun i => n - (intOf i).toNat)
 case atStart => exact ⟨0, Nat.zero_le _, rfl, rfl⟩
 case round =>
  obtain ⟨k, hk, rfl, hall⟩ := hrel
  have H := Lib.hid hall
  clear hall
  by_cases hlt : k < n
  ·obtain ⟨g, o, rfl, hg, hc⟩ := h.block (by omega)
   have hck := hc k hlt
   clear hc
   go_wp2_with (go_at_call 95; refine (sIsLabel_any _ _).mono ?_; rintro e w' ⟨rfl, rfl⟩)
   ·go_ret
    have hno : allLab l = false := all_not (by rw [hl.out]; omega) (by simpa using ‹(!lab (nth l k)) = true›)
    exact ⟨ret_bool (by simp [labelsOk, hno]), rfl⟩
   ·have ht : lab (nth l k) = true := by simpa using ‹(!lab (nth l k)) = false›
    go_round
    case rel => exact ⟨k + 1, by omega, by go_num, all_snoc (by rw [hl.out]; omega) H.out ht⟩
    case measure => simp [intOf]; omega
  ·go_wp2
   go_ret
   have hy : allLab l = true := all_done (by rw [hl.out]; omega) H.out
   exact ⟨ret_bool (by simp [labelsOk, hy, hl.out]), rfl⟩
set_option maxRecDepth 100000 in
set_option maxHeartbeats 2000000 in
theorem iGarbledOk_L {cA0 : Option Addr} {cn0 cc0 : Nat} {cL0 : List (Int × Int × Int)} {cA1 : Option Addr} {cn1 cc1 : Nat} {cL1 : List Int} {gA1 : Option Addr} {gn1 gc1 : Nat} {gL1 : List Int} {gA2 : Option Addr} {gn2 gc2 : Nat} {gL2 : List Int} {w : World} (cH : RdL w [((.slice cA0 cn0 cc0), .gates cL0), ((.slice cA1 cn1 cc1), .ints cL1)]) (cL0n : cL0.length ≤ 1048576) (cL1n : cL1.length ≤ 1048576) (gI0 : Int) (gH : RdL w [((.slice gA1 gn1 gc1), .ints gL1), ((.slice gA2 gn2 gc2), .ints gL2)]) (gL1n : gL1.length ≤ 1048576) (gL2n : gL2.length ≤ 1048576) :
  Calls Try.prog 60 #[.agg #[(.slice cA0 cn0 cc0), (.slice cA1 cn1 cc1)], .agg #[.int .i64 gI0, (.slice gA1 gn1 gc1), (.slice gA2 gn2 gc2)]] w fun e w' => e = .returned (.bool (gbOk cL0 cL1 gI0 gL1 gL2)) ∧ Below w.heap.size w w' := by
 have cL0g : Gates w cA0 cn0 cL0 := RdG.toG (cH ((.slice cA0 cn0 cc0), .gates cL0) (by simp))
 have cL0l := Lib.hid cL0g.1
 have cL0m : cn0 ≤ 1048576 := by rw [← cL0l.out]; exact cL0n
 have cL1i : Ints w cA1 cn1 cL1 := Rd.toInts (cH ((.slice cA1 cn1 cc1), .ints cL1) (by simp))
 have cL1l := Lib.hid cL1i.len
 have cL1m : cn1 ≤ 1048576 := by rw [← cL1l.out]; exact cL1n
 have gL1i : Ints w gA1 gn1 gL1 := Rd.toInts (gH ((.slice gA1 gn1 gc1), .ints gL1) (by simp))
 have gL1l := Lib.hid gL1i.len
 have gL1m : gn1 ≤ 1048576 := by rw [← gL1l.out]; exact gL1n
 have gL2i : Ints w gA2 gn2 gL2 := Rd.toInts (gH ((.slice gA2 gn2 gc2), .ints gL2) (by simp))
 have gL2l := Lib.hid gL2i.len
 have gL2m : gn2 ≤ 1048576 := by rw [← gL2l.out]; exact gL2n
 have HE := Lib.hid (show gbOk cL0 cL1 gI0 gL1 gL2 = (circOk cL0 cL1 && lab gI0 && allLab gL1 && allLab gL2 && (bits .and .i64 gI0 1 == 1) && ((gn1 : Int) == (cn0 : Int)) && ((gn2 : Int) == 2 * ((countG cL0 4 : Nat) : Int))) by simp only [gbOk, labelsOk, cL0l.out, gL1l.out, gL2l.out]; ac_rfl)
 have hc4 : countG cL0 4 ≤ 1048576 := Nat.le_trans (cntG_le _ _ _) cL0n
 have hw1 : IntKind.i64.wrap (2 * ((countG cL0 4 : Nat) : Int)) = 2 * ((countG cL0 4 : Nat) : Int) := by (rw [IntKind.wrap_i64]; (first | omega | (unfold wrap64; omega)))
 cases k1 : circOk cL0 cL1 with
 | false =>
  go_enter Try.func60, Try.ntmps60
  go_wp2_with fail
  refine wp_region_held_drew (S := fun W => W.cell? ⟨w.heap.size, 0, none⟩ = some ((.slice cA0 cn0 cc0)) ∧ W.cell? ⟨w.heap.size, 1, none⟩ = some ((.slice cA1 cn1 cc1)) ∧ W.cell? ⟨w.heap.size + 1, 0, none⟩ = some (.int .i64 gI0) ∧ W.cell? ⟨w.heap.size + 1, 1, none⟩ = some ((.slice gA1 gn1 gc1)) ∧ W.cell? ⟨w.heap.size + 1, 2, none⟩ = some ((.slice gA2 gn2 gc2))) (by kernel_rfl) ⟨((Box.new (g := w.heap.size) _ #[(.slice cA0 cn0 cc0), (.slice cA1 cn1 cc1)] 27 (by simp)).alloc _).drew.two.1, ((Box.new (g := w.heap.size) _ #[(.slice cA0 cn0 cc0), (.slice cA1 cn1 cc1)] 27 (by simp)).alloc _).drew.two.2.1, (Box.new (g := w.heap.size + 1) _ #[.int .i64 gI0, (.slice gA1 gn1 gc1), (.slice gA2 gn2 gc2)] 33 (by simp)).drew.three.1, (Box.new (g := w.heap.size + 1) _ #[.int .i64 gI0, (.slice gA1 gn1 gc1), (.slice gA2 gn2 gc2)] 33 (by simp)).drew.three.2.1, (Box.new (g := w.heap.size + 1) _ #[.int .i64 gI0, (.slice gA1 gn1 gc1), (.slice gA2 gn2 gc2)] 33 (by simp)).drew.three.2.2.1⟩ (fun hS => ?_)
  (refine tk 0 hS ?_; (try simp only [Act.put, layA, layB, layC]))
  refine on 1 ?_
  refine callH (by go_simp; (first | done | with_reducible rfl | exact ⟨rfl, rfl⟩)) ?_
  go_at_call 86
  refine (iCircuitOk_L (RdL.b cH) cL0n cL1n).mono ?_
  rintro e w1 ⟨rfl, b1⟩
  clear hS
  have z1 := Below.size b1
  (try simp only [World.size_alloc, World.size_setCell, size_drew] at z1)
  have B1 : Below w.heap.size w w1 := Below.t b1
  have xc_ : Box w1 (w.heap.size) #[(.slice cA0 cn0 cc0), (.slice cA1 cn1 cc1)] 27 := (Box.b ((Box.new (g := w.heap.size) _ #[(.slice cA0 cn0 cc0), (.slice cA1 cn1 cc1)] 27 (by simp)).alloc _).drew b1)
  have xc := xc_; clear xc_
  have xg_ : Box w1 (w.heap.size + 1) #[.int .i64 gI0, (.slice gA1 gn1 gc1), (.slice gA2 gn2 gc2)] 33 := (Box.b (Box.new (g := w.heap.size + 1) _ #[.int .i64 gI0, (.slice gA1 gn1 gc1), (.slice gA2 gn2 gc2)] 33 (by simp)).drew b1)
  have xg := xg_; clear xg_
  refine ⟨.bool false, by rw [k1], ⟨xc.two.1, xc.two.2.1, xg.three.1, xg.three.2.1, xg.three.2.2.1⟩, fun hS => ?_⟩
  (try simp only [Act.put, layA, layB, layC])
  (refine tk 2 hS ?_; (try simp only [Act.put, layA, layB, layC]))
  (refine ps 3 hS ?_; (try simp only [Act.put, layA, layB, layC]))
  (refine ps 4 hS ?_; (try simp only [Act.put, layA, layB, layC]))
  (refine ps 5 hS ?_; (try simp only [Act.put, layA, layB, layC]))
  (refine tk 6 hS ?_; (try simp only [Act.put, layA, layB, layC]))
  (refine tk 7 hS ?_; (try simp only [Act.put, layA, layB, layC]))
  (refine ps 8 hS ?_; (try simp only [Act.put, layA, layB, layC]))
  (refine ps 9 hS ?_; (try simp only [Act.put, layA, layB, layC]))
  (refine ps 10 hS ?_; (try simp only [Act.put, layA, layB, layC]))
  (refine tk 11 hS ?_; (try simp only [Act.put, layA, layB, layC]))
  (refine tk 12 hS ?_; (try simp only [Act.put, layA, layB, layC]))
  (refine ps 13 hS ?_; (try simp only [Act.put, layA, layB, layC]))
  (refine ps 14 hS ?_; (try simp only [Act.put, layA, layB, layC]))
  (refine ps 15 hS ?_; (try simp only [Act.put, layA, layB, layC]))
  (refine tk 16 hS ?_; (try simp only [Act.put, layA, layB, layC]))
  (refine tk 17 hS ?_; (try simp only [Act.put, layA, layB, layC]))
  (refine ps 18 hS ?_; (try simp only [Act.put, layA, layB, layC]))
  (refine ps 19 hS ?_; (try simp only [Act.put, layA, layB, layC]))
  (refine ps 20 hS ?_; (try simp only [Act.put, layA, layB, layC]))
  (refine ps 21 hS ?_; (try simp only [Act.put, layA, layB, layC]))
  (refine tk 22 hS ?_; (try simp only [Act.put, layA, layB, layC]))
  (refine tk 23 hS ?_; (try simp only [Act.put, layA, layB, layC]))
  (refine ps 24 hS ?_; (try simp only [Act.put, layA, layB, layC]))
  (refine ps 25 hS ?_; (try simp only [Act.put, layA, layB, layC]))
  (refine ps 26 hS ?_; (try simp only [Act.put, layA, layB, layC]))
  (refine ps 27 hS ?_; (try simp only [Act.put, layA, layB, layC]))
  (refine ps 28 hS ?_; (try simp only [Act.put, layA, layB, layC]))
  (refine ps 29 hS ?_; (try simp only [Act.put, layA, layB, layC]))
  (refine ps 30 hS ?_; (try simp only [Act.put, layA, layB, layC]))
  (refine tk 31 hS ?_; (try simp only [Act.put, layA, layB, layC]))
  (refine tk 32 hS ?_; (try simp only [Act.put, layA, layB, layC]))
  (refine ps 33 hS ?_; (try simp only [Act.put, layA, layB, layC]))
  (refine ps 34 hS ?_; (try simp only [Act.put, layA, layB, layC]))
  (refine ps 35 hS ?_; (try simp only [Act.put, layA, layB, layC]))
  (refine ps 36 hS ?_; (try simp only [Act.put, layA, layB, layC]))
  (refine ps 37 hS ?_; (try simp only [Act.put, layA, layB, layC]))
  (refine ps 38 hS ?_; (try simp only [Act.put, layA, layB, layC]))
  (refine ps 39 hS ?_; (try simp only [Act.put, layA, layB, layC]))
  (refine tk 40 hS ?_; (try simp only [Act.put, layA, layB, layC]))
  (refine tk 41 hS ?_; (try simp only [Act.put, layA, layB, layC]))
  clear hS
  refine wpAnyH_done (by kernel_rfl) ?_ _
  go_wp2
  go_ret
  exact ⟨ret_bool (by rw [HE.out, k1]; simp), by repeat (with_reducible (first | assumption | exact Below.refl _ _ | refine Below.alloc ?_ (by first | omega | (simp; done) | (simp; omega)) _ | refine Below.setCell ?_ (by first | omega | (simp; done) | (simp; omega)) _ | refine Below.drew ?_ | refine below_drewN ?_ _))⟩
 | true =>
  cases k2 : lab gI0 with
  | false =>
   go_enter Try.func60, Try.ntmps60
   go_wp2_with fail
   refine wp_region_held_drew (S := fun W => W.cell? ⟨w.heap.size, 0, none⟩ = some ((.slice cA0 cn0 cc0)) ∧ W.cell? ⟨w.heap.size, 1, none⟩ = some ((.slice cA1 cn1 cc1)) ∧ W.cell? ⟨w.heap.size + 1, 0, none⟩ = some (.int .i64 gI0) ∧ W.cell? ⟨w.heap.size + 1, 1, none⟩ = some ((.slice gA1 gn1 gc1)) ∧ W.cell? ⟨w.heap.size + 1, 2, none⟩ = some ((.slice gA2 gn2 gc2))) (by kernel_rfl) ⟨((Box.new (g := w.heap.size) _ #[(.slice cA0 cn0 cc0), (.slice cA1 cn1 cc1)] 27 (by simp)).alloc _).drew.two.1, ((Box.new (g := w.heap.size) _ #[(.slice cA0 cn0 cc0), (.slice cA1 cn1 cc1)] 27 (by simp)).alloc _).drew.two.2.1, (Box.new (g := w.heap.size + 1) _ #[.int .i64 gI0, (.slice gA1 gn1 gc1), (.slice gA2 gn2 gc2)] 33 (by simp)).drew.three.1, (Box.new (g := w.heap.size + 1) _ #[.int .i64 gI0, (.slice gA1 gn1 gc1), (.slice gA2 gn2 gc2)] 33 (by simp)).drew.three.2.1, (Box.new (g := w.heap.size + 1) _ #[.int .i64 gI0, (.slice gA1 gn1 gc1), (.slice gA2 gn2 gc2)] 33 (by simp)).drew.three.2.2.1⟩ (fun hS => ?_)
   (refine tk 0 hS ?_; (try simp only [Act.put, layA, layB, layC]))
   refine on 1 ?_
   refine callH (by go_simp; (first | done | with_reducible rfl | exact ⟨rfl, rfl⟩)) ?_
   go_at_call 86
   refine (iCircuitOk_L (RdL.b cH) cL0n cL1n).mono ?_
   rintro e w1 ⟨rfl, b1⟩
   clear hS
   have z1 := Below.size b1
   (try simp only [World.size_alloc, World.size_setCell, size_drew] at z1)
   have B1 : Below w.heap.size w w1 := Below.t b1
   have xc_ : Box w1 (w.heap.size) #[(.slice cA0 cn0 cc0), (.slice cA1 cn1 cc1)] 27 := (Box.b ((Box.new (g := w.heap.size) _ #[(.slice cA0 cn0 cc0), (.slice cA1 cn1 cc1)] 27 (by simp)).alloc _).drew b1)
   have xc := xc_; clear xc_
   have xg_ : Box w1 (w.heap.size + 1) #[.int .i64 gI0, (.slice gA1 gn1 gc1), (.slice gA2 gn2 gc2)] 33 := (Box.b (Box.new (g := w.heap.size + 1) _ #[.int .i64 gI0, (.slice gA1 gn1 gc1), (.slice gA2 gn2 gc2)] 33 (by simp)).drew b1)
   have xg := xg_; clear xg_
   refine ⟨.bool true, by rw [k1], ⟨xc.two.1, xc.two.2.1, xg.three.1, xg.three.2.1, xg.three.2.2.1⟩, fun hS => ?_⟩
   (try simp only [Act.put, layA, layB, layC])
   (refine tk 2 hS ?_; (try simp only [Act.put, layA, layB, layC]))
   (refine tk 3 hS ?_; (try simp only [Act.put, layA, layB, layC]))
   (refine tk 4 hS ?_; (try simp only [Act.put, layA, layB, layC]))
   refine on 5 ?_
   refine callH (by go_simp; (first | done | with_reducible rfl | exact ⟨rfl, rfl⟩)) ?_
   go_at_call 104
   refine (iIsLabel_any _ _).mono ?_
   rintro e w_ ⟨rfl, rfl⟩
   refine ⟨.bool false, by rw [k2], hS, fun hS => ?_⟩
   (try simp only [Act.put, layA, layB, layC])
   (refine tk 6 hS ?_; (try simp only [Act.put, layA, layB, layC]))
   (refine tk 7 hS ?_; (try simp only [Act.put, layA, layB, layC]))
   (refine ps 8 hS ?_; (try simp only [Act.put, layA, layB, layC]))
   (refine ps 9 hS ?_; (try simp only [Act.put, layA, layB, layC]))
   (refine ps 10 hS ?_; (try simp only [Act.put, layA, layB, layC]))
   (refine tk 11 hS ?_; (try simp only [Act.put, layA, layB, layC]))
   (refine tk 12 hS ?_; (try simp only [Act.put, layA, layB, layC]))
   (refine ps 13 hS ?_; (try simp only [Act.put, layA, layB, layC]))
   (refine ps 14 hS ?_; (try simp only [Act.put, layA, layB, layC]))
   (refine ps 15 hS ?_; (try simp only [Act.put, layA, layB, layC]))
   (refine tk 16 hS ?_; (try simp only [Act.put, layA, layB, layC]))
   (refine tk 17 hS ?_; (try simp only [Act.put, layA, layB, layC]))
   (refine ps 18 hS ?_; (try simp only [Act.put, layA, layB, layC]))
   (refine ps 19 hS ?_; (try simp only [Act.put, layA, layB, layC]))
   (refine ps 20 hS ?_; (try simp only [Act.put, layA, layB, layC]))
   (refine ps 21 hS ?_; (try simp only [Act.put, layA, layB, layC]))
   (refine tk 22 hS ?_; (try simp only [Act.put, layA, layB, layC]))
   (refine tk 23 hS ?_; (try simp only [Act.put, layA, layB, layC]))
   (refine ps 24 hS ?_; (try simp only [Act.put, layA, layB, layC]))
   (refine ps 25 hS ?_; (try simp only [Act.put, layA, layB, layC]))
   (refine ps 26 hS ?_; (try simp only [Act.put, layA, layB, layC]))
   (refine ps 27 hS ?_; (try simp only [Act.put, layA, layB, layC]))
   (refine ps 28 hS ?_; (try simp only [Act.put, layA, layB, layC]))
   (refine ps 29 hS ?_; (try simp only [Act.put, layA, layB, layC]))
   (refine ps 30 hS ?_; (try simp only [Act.put, layA, layB, layC]))
   (refine tk 31 hS ?_; (try simp only [Act.put, layA, layB, layC]))
   (refine tk 32 hS ?_; (try simp only [Act.put, layA, layB, layC]))
   (refine ps 33 hS ?_; (try simp only [Act.put, layA, layB, layC]))
   (refine ps 34 hS ?_; (try simp only [Act.put, layA, layB, layC]))
   (refine ps 35 hS ?_; (try simp only [Act.put, layA, layB, layC]))
   (refine ps 36 hS ?_; (try simp only [Act.put, layA, layB, layC]))
   (refine ps 37 hS ?_; (try simp only [Act.put, layA, layB, layC]))
   (refine ps 38 hS ?_; (try simp only [Act.put, layA, layB, layC]))
   (refine ps 39 hS ?_; (try simp only [Act.put, layA, layB, layC]))
   (refine tk 40 hS ?_; (try simp only [Act.put, layA, layB, layC]))
   (refine tk 41 hS ?_; (try simp only [Act.put, layA, layB, layC]))
   clear hS
   refine wpAnyH_done (by kernel_rfl) ?_ _
   go_wp2
   go_ret
   exact ⟨ret_bool (by rw [HE.out, k1, k2]; simp), by repeat (with_reducible (first | assumption | exact Below.refl _ _ | refine Below.alloc ?_ (by first | omega | (simp; done) | (simp; omega)) _ | refine Below.setCell ?_ (by first | omega | (simp; done) | (simp; omega)) _ | refine Below.drew ?_ | refine below_drewN ?_ _))⟩
  | true =>
   cases k3 : allLab gL1 with
   | false =>
    go_enter Try.func60, Try.ntmps60
    go_wp2_with fail
    refine wp_region_held_drew (S := fun W => W.cell? ⟨w.heap.size, 0, none⟩ = some ((.slice cA0 cn0 cc0)) ∧ W.cell? ⟨w.heap.size, 1, none⟩ = some ((.slice cA1 cn1 cc1)) ∧ W.cell? ⟨w.heap.size + 1, 0, none⟩ = some (.int .i64 gI0) ∧ W.cell? ⟨w.heap.size + 1, 1, none⟩ = some ((.slice gA1 gn1 gc1)) ∧ W.cell? ⟨w.heap.size + 1, 2, none⟩ = some ((.slice gA2 gn2 gc2))) (by kernel_rfl) ⟨((Box.new (g := w.heap.size) _ #[(.slice cA0 cn0 cc0), (.slice cA1 cn1 cc1)] 27 (by simp)).alloc _).drew.two.1, ((Box.new (g := w.heap.size) _ #[(.slice cA0 cn0 cc0), (.slice cA1 cn1 cc1)] 27 (by simp)).alloc _).drew.two.2.1, (Box.new (g := w.heap.size + 1) _ #[.int .i64 gI0, (.slice gA1 gn1 gc1), (.slice gA2 gn2 gc2)] 33 (by simp)).drew.three.1, (Box.new (g := w.heap.size + 1) _ #[.int .i64 gI0, (.slice gA1 gn1 gc1), (.slice gA2 gn2 gc2)] 33 (by simp)).drew.three.2.1, (Box.new (g := w.heap.size + 1) _ #[.int .i64 gI0, (.slice gA1 gn1 gc1), (.slice gA2 gn2 gc2)] 33 (by simp)).drew.three.2.2.1⟩ (fun hS => ?_)
    (refine tk 0 hS ?_; (try simp only [Act.put, layA, layB, layC]))
    refine on 1 ?_
    refine callH (by go_simp; (first | done | with_reducible rfl | exact ⟨rfl, rfl⟩)) ?_
    go_at_call 86
    refine (iCircuitOk_L (RdL.b cH) cL0n cL1n).mono ?_
    rintro e w1 ⟨rfl, b1⟩
    clear hS
    have z1 := Below.size b1
    (try simp only [World.size_alloc, World.size_setCell, size_drew] at z1)
    have B1 : Below w.heap.size w w1 := Below.t b1
    have xc_ : Box w1 (w.heap.size) #[(.slice cA0 cn0 cc0), (.slice cA1 cn1 cc1)] 27 := (Box.b ((Box.new (g := w.heap.size) _ #[(.slice cA0 cn0 cc0), (.slice cA1 cn1 cc1)] 27 (by simp)).alloc _).drew b1)
    have xc := xc_; clear xc_
    have xg_ : Box w1 (w.heap.size + 1) #[.int .i64 gI0, (.slice gA1 gn1 gc1), (.slice gA2 gn2 gc2)] 33 := (Box.b (Box.new (g := w.heap.size + 1) _ #[.int .i64 gI0, (.slice gA1 gn1 gc1), (.slice gA2 gn2 gc2)] 33 (by simp)).drew b1)
    have xg := xg_; clear xg_
    refine ⟨.bool true, by rw [k1], ⟨xc.two.1, xc.two.2.1, xg.three.1, xg.three.2.1, xg.three.2.2.1⟩, fun hS => ?_⟩
    (try simp only [Act.put, layA, layB, layC])
    (refine tk 2 hS ?_; (try simp only [Act.put, layA, layB, layC]))
    (refine tk 3 hS ?_; (try simp only [Act.put, layA, layB, layC]))
    (refine tk 4 hS ?_; (try simp only [Act.put, layA, layB, layC]))
    refine on 5 ?_
    refine callH (by go_simp; (first | done | with_reducible rfl | exact ⟨rfl, rfl⟩)) ?_
    go_at_call 104
    refine (iIsLabel_any _ _).mono ?_
    rintro e w_ ⟨rfl, rfl⟩
    refine ⟨.bool true, by rw [k2], hS, fun hS => ?_⟩
    (try simp only [Act.put, layA, layB, layC])
    (refine tk 6 hS ?_; (try simp only [Act.put, layA, layB, layC]))
    (refine tk 7 hS ?_; (try simp only [Act.put, layA, layB, layC]))
    (refine tk 8 hS ?_; (try simp only [Act.put, layA, layB, layC]))
    (refine tk 9 hS ?_; (try simp only [Act.put, layA, layB, layC]))
    refine on 10 ?_
    refine callH (by go_simp; (first | done | with_reducible rfl | exact ⟨rfl, rfl⟩)) ?_
    go_at_call 91
    refine (areLabels_any _ _ _ _ _ gL1i.b (by omega)).mono ?_
    rintro e w_ ⟨rfl, rfl⟩
    refine ⟨.bool false, by rw [k3], hS, fun hS => ?_⟩
    (try simp only [Act.put, layA, layB, layC])
    (refine tk 11 hS ?_; (try simp only [Act.put, layA, layB, layC]))
    (refine tk 12 hS ?_; (try simp only [Act.put, layA, layB, layC]))
    (refine ps 13 hS ?_; (try simp only [Act.put, layA, layB, layC]))
    (refine ps 14 hS ?_; (try simp only [Act.put, layA, layB, layC]))
    (refine ps 15 hS ?_; (try simp only [Act.put, layA, layB, layC]))
    (refine tk 16 hS ?_; (try simp only [Act.put, layA, layB, layC]))
    (refine tk 17 hS ?_; (try simp only [Act.put, layA, layB, layC]))
    (refine ps 18 hS ?_; (try simp only [Act.put, layA, layB, layC]))
    (refine ps 19 hS ?_; (try simp only [Act.put, layA, layB, layC]))
    (refine ps 20 hS ?_; (try simp only [Act.put, layA, layB, layC]))
    (refine ps 21 hS ?_; (try simp only [Act.put, layA, layB, layC]))
    (refine tk 22 hS ?_; (try simp only [Act.put, layA, layB, layC]))
    (refine tk 23 hS ?_; (try simp only [Act.put, layA, layB, layC]))
    (refine ps 24 hS ?_; (try simp only [Act.put, layA, layB, layC]))
    (refine ps 25 hS ?_; (try simp only [Act.put, layA, layB, layC]))
    (refine ps 26 hS ?_; (try simp only [Act.put, layA, layB, layC]))
    (refine ps 27 hS ?_; (try simp only [Act.put, layA, layB, layC]))
    (refine ps 28 hS ?_; (try simp only [Act.put, layA, layB, layC]))
    (refine ps 29 hS ?_; (try simp only [Act.put, layA, layB, layC]))
    (refine ps 30 hS ?_; (try simp only [Act.put, layA, layB, layC]))
    (refine tk 31 hS ?_; (try simp only [Act.put, layA, layB, layC]))
    (refine tk 32 hS ?_; (try simp only [Act.put, layA, layB, layC]))
    (refine ps 33 hS ?_; (try simp only [Act.put, layA, layB, layC]))
    (refine ps 34 hS ?_; (try simp only [Act.put, layA, layB, layC]))
    (refine ps 35 hS ?_; (try simp only [Act.put, layA, layB, layC]))
    (refine ps 36 hS ?_; (try simp only [Act.put, layA, layB, layC]))
    (refine ps 37 hS ?_; (try simp only [Act.put, layA, layB, layC]))
    (refine ps 38 hS ?_; (try simp only [Act.put, layA, layB, layC]))
    (refine ps 39 hS ?_; (try simp only [Act.put, layA, layB, layC]))
    (refine tk 40 hS ?_; (try simp only [Act.put, layA, layB, layC]))
    (refine tk 41 hS ?_; (try simp only [Act.put, layA, layB, layC]))
    clear hS
    refine wpAnyH_done (by kernel_rfl) ?_ _
    go_wp2
    go_ret
    exact ⟨ret_bool (by rw [HE.out, k1, k2, k3]; simp), by repeat (with_reducible (first | assumption | exact Below.refl _ _ | refine Below.alloc ?_ (by first | omega | (simp; done) | (simp; omega)) _ | refine Below.setCell ?_ (by first | omega | (simp; done) | (simp; omega)) _ | refine Below.drew ?_ | refine below_drewN ?_ _))⟩
   | true =>
    cases k4 : allLab gL2 with
    | false =>
     go_enter Try.func60, Try.ntmps60
     go_wp2_with fail
     refine wp_region_held_drew (S := fun W => W.cell? ⟨w.heap.size, 0, none⟩ = some ((.slice cA0 cn0 cc0)) ∧ W.cell? ⟨w.heap.size, 1, none⟩ = some ((.slice cA1 cn1 cc1)) ∧ W.cell? ⟨w.heap.size + 1, 0, none⟩ = some (.int .i64 gI0) ∧ W.cell? ⟨w.heap.size + 1, 1, none⟩ = some ((.slice gA1 gn1 gc1)) ∧ W.cell? ⟨w.heap.size + 1, 2, none⟩ = some ((.slice gA2 gn2 gc2))) (by kernel_rfl) ⟨((Box.new (g := w.heap.size) _ #[(.slice cA0 cn0 cc0), (.slice cA1 cn1 cc1)] 27 (by simp)).alloc _).drew.two.1, ((Box.new (g := w.heap.size) _ #[(.slice cA0 cn0 cc0), (.slice cA1 cn1 cc1)] 27 (by simp)).alloc _).drew.two.2.1, (Box.new (g := w.heap.size + 1) _ #[.int .i64 gI0, (.slice gA1 gn1 gc1), (.slice gA2 gn2 gc2)] 33 (by simp)).drew.three.1, (Box.new (g := w.heap.size + 1) _ #[.int .i64 gI0, (.slice gA1 gn1 gc1), (.slice gA2 gn2 gc2)] 33 (by simp)).drew.three.2.1, (Box.new (g := w.heap.size + 1) _ #[.int .i64 gI0, (.slice gA1 gn1 gc1), (.slice gA2 gn2 gc2)] 33 (by simp)).drew.three.2.2.1⟩ (fun hS => ?_)
     (refine tk 0 hS ?_; (try simp only [Act.put, layA, layB, layC]))
     refine on 1 ?_
     refine callH (by go_simp; (first | done | with_reducible rfl | exact ⟨rfl, rfl⟩)) ?_
     go_at_call 86
     refine (iCircuitOk_L (RdL.b cH) cL0n cL1n).mono ?_
     rintro e w1 ⟨rfl, b1⟩
     clear hS
     have z1 := Below.size b1
     (try simp only [World.size_alloc, World.size_setCell, size_drew] at z1)
     have B1 : Below w.heap.size w w1 := Below.t b1
     have xc_ : Box w1 (w.heap.size) #[(.slice cA0 cn0 cc0), (.slice cA1 cn1 cc1)] 27 := (Box.b ((Box.new (g := w.heap.size) _ #[(.slice cA0 cn0 cc0), (.slice cA1 cn1 cc1)] 27 (by simp)).alloc _).drew b1)
     have xc := xc_; clear xc_
     have xg_ : Box w1 (w.heap.size + 1) #[.int .i64 gI0, (.slice gA1 gn1 gc1), (.slice gA2 gn2 gc2)] 33 := (Box.b (Box.new (g := w.heap.size + 1) _ #[.int .i64 gI0, (.slice gA1 gn1 gc1), (.slice gA2 gn2 gc2)] 33 (by simp)).drew b1)
     have xg := xg_; clear xg_
     refine ⟨.bool true, by rw [k1], ⟨xc.two.1, xc.two.2.1, xg.three.1, xg.three.2.1, xg.three.2.2.1⟩, fun hS => ?_⟩
     (try simp only [Act.put, layA, layB, layC])
     (refine tk 2 hS ?_; (try simp only [Act.put, layA, layB, layC]))
     (refine tk 3 hS ?_; (try simp only [Act.put, layA, layB, layC]))
     (refine tk 4 hS ?_; (try simp only [Act.put, layA, layB, layC]))
     refine on 5 ?_
     refine callH (by go_simp; (first | done | with_reducible rfl | exact ⟨rfl, rfl⟩)) ?_
     go_at_call 104
     refine (iIsLabel_any _ _).mono ?_
     rintro e w_ ⟨rfl, rfl⟩
     refine ⟨.bool true, by rw [k2], hS, fun hS => ?_⟩
     (try simp only [Act.put, layA, layB, layC])
     (refine tk 6 hS ?_; (try simp only [Act.put, layA, layB, layC]))
     (refine tk 7 hS ?_; (try simp only [Act.put, layA, layB, layC]))
     (refine tk 8 hS ?_; (try simp only [Act.put, layA, layB, layC]))
     (refine tk 9 hS ?_; (try simp only [Act.put, layA, layB, layC]))
     refine on 10 ?_
     refine callH (by go_simp; (first | done | with_reducible rfl | exact ⟨rfl, rfl⟩)) ?_
     go_at_call 91
     refine (areLabels_any _ _ _ _ _ gL1i.b (by omega)).mono ?_
     rintro e w_ ⟨rfl, rfl⟩
     refine ⟨.bool true, by rw [k3], hS, fun hS => ?_⟩
     (try simp only [Act.put, layA, layB, layC])
     (refine tk 11 hS ?_; (try simp only [Act.put, layA, layB, layC]))
     (refine tk 12 hS ?_; (try simp only [Act.put, layA, layB, layC]))
     (refine tk 13 hS ?_; (try simp only [Act.put, layA, layB, layC]))
     (refine tk 14 hS ?_; (try simp only [Act.put, layA, layB, layC]))
     refine on 15 ?_
     refine callH (by go_simp; (first | done | with_reducible rfl | exact ⟨rfl, rfl⟩)) ?_
     go_at_call 91
     refine (areLabels_any _ _ _ _ _ gL2i.b (by omega)).mono ?_
     rintro e w_ ⟨rfl, rfl⟩
     refine ⟨.bool false, by rw [k4], hS, fun hS => ?_⟩
     (try simp only [Act.put, layA, layB, layC])
     (refine tk 16 hS ?_; (try simp only [Act.put, layA, layB, layC]))
     (refine tk 17 hS ?_; (try simp only [Act.put, layA, layB, layC]))
     (refine ps 18 hS ?_; (try simp only [Act.put, layA, layB, layC]))
     (refine ps 19 hS ?_; (try simp only [Act.put, layA, layB, layC]))
     (refine ps 20 hS ?_; (try simp only [Act.put, layA, layB, layC]))
     (refine ps 21 hS ?_; (try simp only [Act.put, layA, layB, layC]))
     (refine tk 22 hS ?_; (try simp only [Act.put, layA, layB, layC]))
     (refine tk 23 hS ?_; (try simp only [Act.put, layA, layB, layC]))
     (refine ps 24 hS ?_; (try simp only [Act.put, layA, layB, layC]))
     (refine ps 25 hS ?_; (try simp only [Act.put, layA, layB, layC]))
     (refine ps 26 hS ?_; (try simp only [Act.put, layA, layB, layC]))
     (refine ps 27 hS ?_; (try simp only [Act.put, layA, layB, layC]))
     (refine ps 28 hS ?_; (try simp only [Act.put, layA, layB, layC]))
     (refine ps 29 hS ?_; (try simp only [Act.put, layA, layB, layC]))
     (refine ps 30 hS ?_; (try simp only [Act.put, layA, layB, layC]))
     (refine tk 31 hS ?_; (try simp only [Act.put, layA, layB, layC]))
     (refine tk 32 hS ?_; (try simp only [Act.put, layA, layB, layC]))
     (refine ps 33 hS ?_; (try simp only [Act.put, layA, layB, layC]))
     (refine ps 34 hS ?_; (try simp only [Act.put, layA, layB, layC]))
     (refine ps 35 hS ?_; (try simp only [Act.put, layA, layB, layC]))
     (refine ps 36 hS ?_; (try simp only [Act.put, layA, layB, layC]))
     (refine ps 37 hS ?_; (try simp only [Act.put, layA, layB, layC]))
     (refine ps 38 hS ?_; (try simp only [Act.put, layA, layB, layC]))
     (refine ps 39 hS ?_; (try simp only [Act.put, layA, layB, layC]))
     (refine tk 40 hS ?_; (try simp only [Act.put, layA, layB, layC]))
     (refine tk 41 hS ?_; (try simp only [Act.put, layA, layB, layC]))
     clear hS
     refine wpAnyH_done (by kernel_rfl) ?_ _
     go_wp2
     go_ret
     exact ⟨ret_bool (by rw [HE.out, k1, k2, k3, k4]; simp), by repeat (with_reducible (first | assumption | exact Below.refl _ _ | refine Below.alloc ?_ (by first | omega | (simp; done) | (simp; omega)) _ | refine Below.setCell ?_ (by first | omega | (simp; done) | (simp; omega)) _ | refine Below.drew ?_ | refine below_drewN ?_ _))⟩
    | true =>
     cases k5 : (bits .and .i64 gI0 1 == 1) with
     | false =>
      go_enter Try.func60, Try.ntmps60
      go_wp2_with fail
      refine wp_region_held_drew (S := fun W => W.cell? ⟨w.heap.size, 0, none⟩ = some ((.slice cA0 cn0 cc0)) ∧ W.cell? ⟨w.heap.size, 1, none⟩ = some ((.slice cA1 cn1 cc1)) ∧ W.cell? ⟨w.heap.size + 1, 0, none⟩ = some (.int .i64 gI0) ∧ W.cell? ⟨w.heap.size + 1, 1, none⟩ = some ((.slice gA1 gn1 gc1)) ∧ W.cell? ⟨w.heap.size + 1, 2, none⟩ = some ((.slice gA2 gn2 gc2))) (by kernel_rfl) ⟨((Box.new (g := w.heap.size) _ #[(.slice cA0 cn0 cc0), (.slice cA1 cn1 cc1)] 27 (by simp)).alloc _).drew.two.1, ((Box.new (g := w.heap.size) _ #[(.slice cA0 cn0 cc0), (.slice cA1 cn1 cc1)] 27 (by simp)).alloc _).drew.two.2.1, (Box.new (g := w.heap.size + 1) _ #[.int .i64 gI0, (.slice gA1 gn1 gc1), (.slice gA2 gn2 gc2)] 33 (by simp)).drew.three.1, (Box.new (g := w.heap.size + 1) _ #[.int .i64 gI0, (.slice gA1 gn1 gc1), (.slice gA2 gn2 gc2)] 33 (by simp)).drew.three.2.1, (Box.new (g := w.heap.size + 1) _ #[.int .i64 gI0, (.slice gA1 gn1 gc1), (.slice gA2 gn2 gc2)] 33 (by simp)).drew.three.2.2.1⟩ (fun hS => ?_)
      (refine tk 0 hS ?_; (try simp only [Act.put, layA, layB, layC]))
      refine on 1 ?_
      refine callH (by go_simp; (first | done | with_reducible rfl | exact ⟨rfl, rfl⟩)) ?_
      go_at_call 86
      refine (iCircuitOk_L (RdL.b cH) cL0n cL1n).mono ?_
      rintro e w1 ⟨rfl, b1⟩
      clear hS
      have z1 := Below.size b1
      (try simp only [World.size_alloc, World.size_setCell, size_drew] at z1)
      have B1 : Below w.heap.size w w1 := Below.t b1
      have xc_ : Box w1 (w.heap.size) #[(.slice cA0 cn0 cc0), (.slice cA1 cn1 cc1)] 27 := (Box.b ((Box.new (g := w.heap.size) _ #[(.slice cA0 cn0 cc0), (.slice cA1 cn1 cc1)] 27 (by simp)).alloc _).drew b1)
      have xc := xc_; clear xc_
      have xg_ : Box w1 (w.heap.size + 1) #[.int .i64 gI0, (.slice gA1 gn1 gc1), (.slice gA2 gn2 gc2)] 33 := (Box.b (Box.new (g := w.heap.size + 1) _ #[.int .i64 gI0, (.slice gA1 gn1 gc1), (.slice gA2 gn2 gc2)] 33 (by simp)).drew b1)
      have xg := xg_; clear xg_
      refine ⟨.bool true, by rw [k1], ⟨xc.two.1, xc.two.2.1, xg.three.1, xg.three.2.1, xg.three.2.2.1⟩, fun hS => ?_⟩
      (try simp only [Act.put, layA, layB, layC])
      (refine tk 2 hS ?_; (try simp only [Act.put, layA, layB, layC]))
      (refine tk 3 hS ?_; (try simp only [Act.put, layA, layB, layC]))
      (refine tk 4 hS ?_; (try simp only [Act.put, layA, layB, layC]))
      refine on 5 ?_
      refine callH (by go_simp; (first | done | with_reducible rfl | exact ⟨rfl, rfl⟩)) ?_
      go_at_call 104
      refine (iIsLabel_any _ _).mono ?_
      rintro e w_ ⟨rfl, rfl⟩
      refine ⟨.bool true, by rw [k2], hS, fun hS => ?_⟩
      (try simp only [Act.put, layA, layB, layC])
      (refine tk 6 hS ?_; (try simp only [Act.put, layA, layB, layC]))
      (refine tk 7 hS ?_; (try simp only [Act.put, layA, layB, layC]))
      (refine tk 8 hS ?_; (try simp only [Act.put, layA, layB, layC]))
      (refine tk 9 hS ?_; (try simp only [Act.put, layA, layB, layC]))
      refine on 10 ?_
      refine callH (by go_simp; (first | done | with_reducible rfl | exact ⟨rfl, rfl⟩)) ?_
      go_at_call 91
      refine (areLabels_any _ _ _ _ _ gL1i.b (by omega)).mono ?_
      rintro e w_ ⟨rfl, rfl⟩
      refine ⟨.bool true, by rw [k3], hS, fun hS => ?_⟩
      (try simp only [Act.put, layA, layB, layC])
      (refine tk 11 hS ?_; (try simp only [Act.put, layA, layB, layC]))
      (refine tk 12 hS ?_; (try simp only [Act.put, layA, layB, layC]))
      (refine tk 13 hS ?_; (try simp only [Act.put, layA, layB, layC]))
      (refine tk 14 hS ?_; (try simp only [Act.put, layA, layB, layC]))
      refine on 15 ?_
      refine callH (by go_simp; (first | done | with_reducible rfl | exact ⟨rfl, rfl⟩)) ?_
      go_at_call 91
      refine (areLabels_any _ _ _ _ _ gL2i.b (by omega)).mono ?_
      rintro e w_ ⟨rfl, rfl⟩
      refine ⟨.bool true, by rw [k4], hS, fun hS => ?_⟩
      (try simp only [Act.put, layA, layB, layC])
      (refine tk 16 hS ?_; (try simp only [Act.put, layA, layB, layC]))
      (refine tk 17 hS ?_; (try simp only [Act.put, layA, layB, layC]))
      (refine tk 18 hS ?_; (try simp only [Act.put, layA, layB, layC]))
      (refine tk 19 hS ?_; (try simp only [Act.put, layA, layB, layC]))
      (refine tk 20 hS ?_; (try simp only [Act.put, layA, layB, layC]))
      (refine tk 21 hS ?_; (try simp only [Act.put, layA, layB, layC]))
      (refine tk 22 hS ?_; (try simp only [Act.put, layA, layB, layC]))
      (refine tk 23 hS ?_; (try simp only [Act.put, layA, layB, layC]))
      (refine ps 24 hS ?_; (try simp only [Act.put, layA, layB, layC]))
      (refine ps 25 hS ?_; (try simp only [Act.put, layA, layB, layC]))
      (refine ps 26 hS ?_; (try simp only [Act.put, layA, layB, layC]))
      (refine ps 27 hS ?_; (try simp only [Act.put, layA, layB, layC]))
      (refine ps 28 hS ?_; (try simp only [Act.put, layA, layB, layC]))
      (refine ps 29 hS ?_; (try simp only [Act.put, layA, layB, layC]))
      (refine ps 30 hS ?_; (try simp only [Act.put, layA, layB, layC]))
      (refine tk 31 hS ?_; (try simp only [Act.put, layA, layB, layC]))
      (refine tk 32 hS ?_; (try simp only [Act.put, layA, layB, layC]))
      (refine ps 33 hS ?_; (try simp only [Act.put, layA, layB, layC]))
      (refine ps 34 hS ?_; (try simp only [Act.put, layA, layB, layC]))
      (refine ps 35 hS ?_; (try simp only [Act.put, layA, layB, layC]))
      (refine ps 36 hS ?_; (try simp only [Act.put, layA, layB, layC]))
      (refine ps 37 hS ?_; (try simp only [Act.put, layA, layB, layC]))
      (refine ps 38 hS ?_; (try simp only [Act.put, layA, layB, layC]))
      (refine ps 39 hS ?_; (try simp only [Act.put, layA, layB, layC]))
      (refine tk 40 hS ?_; (try simp only [Act.put, layA, layB, layC]))
      (refine tk 41 hS ?_; (try simp only [Act.put, layA, layB, layC]))
      clear hS
      refine wpAnyH_done (by kernel_rfl) ?_ _
      go_wp2
      go_ret
      exact ⟨ret_bool (by rw [HE.out, k1, k2, k3, k4, k5]; simp), by repeat (with_reducible (first | assumption | exact Below.refl _ _ | refine Below.alloc ?_ (by first | omega | (simp; done) | (simp; omega)) _ | refine Below.setCell ?_ (by first | omega | (simp; done) | (simp; omega)) _ | refine Below.drew ?_ | refine below_drewN ?_ _))⟩
     | true =>
      cases k6 : ((gn1 : Int) == (cn0 : Int)) with
      | false =>
       go_enter Try.func60, Try.ntmps60
       go_wp2_with fail
       refine wp_region_held_drew (S := fun W => W.cell? ⟨w.heap.size, 0, none⟩ = some ((.slice cA0 cn0 cc0)) ∧ W.cell? ⟨w.heap.size, 1, none⟩ = some ((.slice cA1 cn1 cc1)) ∧ W.cell? ⟨w.heap.size + 1, 0, none⟩ = some (.int .i64 gI0) ∧ W.cell? ⟨w.heap.size + 1, 1, none⟩ = some ((.slice gA1 gn1 gc1)) ∧ W.cell? ⟨w.heap.size + 1, 2, none⟩ = some ((.slice gA2 gn2 gc2))) (by kernel_rfl) ⟨((Box.new (g := w.heap.size) _ #[(.slice cA0 cn0 cc0), (.slice cA1 cn1 cc1)] 27 (by simp)).alloc _).drew.two.1, ((Box.new (g := w.heap.size) _ #[(.slice cA0 cn0 cc0), (.slice cA1 cn1 cc1)] 27 (by simp)).alloc _).drew.two.2.1, (Box.new (g := w.heap.size + 1) _ #[.int .i64 gI0, (.slice gA1 gn1 gc1), (.slice gA2 gn2 gc2)] 33 (by simp)).drew.three.1, (Box.new (g := w.heap.size + 1) _ #[.int .i64 gI0, (.slice gA1 gn1 gc1), (.slice gA2 gn2 gc2)] 33 (by simp)).drew.three.2.1, (Box.new (g := w.heap.size + 1) _ #[.int .i64 gI0, (.slice gA1 gn1 gc1), (.slice gA2 gn2 gc2)] 33 (by simp)).drew.three.2.2.1⟩ (fun hS => ?_)
       (refine tk 0 hS ?_; (try simp only [Act.put, layA, layB, layC]))
       refine on 1 ?_
       refine callH (by go_simp; (first | done | with_reducible rfl | exact ⟨rfl, rfl⟩)) ?_
       go_at_call 86
       refine (iCircuitOk_L (RdL.b cH) cL0n cL1n).mono ?_
       rintro e w1 ⟨rfl, b1⟩
       clear hS
       have z1 := Below.size b1
       (try simp only [World.size_alloc, World.size_setCell, size_drew] at z1)
       have B1 : Below w.heap.size w w1 := Below.t b1
       have xc_ : Box w1 (w.heap.size) #[(.slice cA0 cn0 cc0), (.slice cA1 cn1 cc1)] 27 := (Box.b ((Box.new (g := w.heap.size) _ #[(.slice cA0 cn0 cc0), (.slice cA1 cn1 cc1)] 27 (by simp)).alloc _).drew b1)
       have xc := xc_; clear xc_
       have xg_ : Box w1 (w.heap.size + 1) #[.int .i64 gI0, (.slice gA1 gn1 gc1), (.slice gA2 gn2 gc2)] 33 := (Box.b (Box.new (g := w.heap.size + 1) _ #[.int .i64 gI0, (.slice gA1 gn1 gc1), (.slice gA2 gn2 gc2)] 33 (by simp)).drew b1)
       have xg := xg_; clear xg_
       refine ⟨.bool true, by rw [k1], ⟨xc.two.1, xc.two.2.1, xg.three.1, xg.three.2.1, xg.three.2.2.1⟩, fun hS => ?_⟩
       (try simp only [Act.put, layA, layB, layC])
       (refine tk 2 hS ?_; (try simp only [Act.put, layA, layB, layC]))
       (refine tk 3 hS ?_; (try simp only [Act.put, layA, layB, layC]))
       (refine tk 4 hS ?_; (try simp only [Act.put, layA, layB, layC]))
       refine on 5 ?_
       refine callH (by go_simp; (first | done | with_reducible rfl | exact ⟨rfl, rfl⟩)) ?_
       go_at_call 104
       refine (iIsLabel_any _ _).mono ?_
       rintro e w_ ⟨rfl, rfl⟩
       refine ⟨.bool true, by rw [k2], hS, fun hS => ?_⟩
       (try simp only [Act.put, layA, layB, layC])
       (refine tk 6 hS ?_; (try simp only [Act.put, layA, layB, layC]))
       (refine tk 7 hS ?_; (try simp only [Act.put, layA, layB, layC]))
       (refine tk 8 hS ?_; (try simp only [Act.put, layA, layB, layC]))
       (refine tk 9 hS ?_; (try simp only [Act.put, layA, layB, layC]))
       refine on 10 ?_
       refine callH (by go_simp; (first | done | with_reducible rfl | exact ⟨rfl, rfl⟩)) ?_
       go_at_call 91
       refine (areLabels_any _ _ _ _ _ gL1i.b (by omega)).mono ?_
       rintro e w_ ⟨rfl, rfl⟩
       refine ⟨.bool true, by rw [k3], hS, fun hS => ?_⟩
       (try simp only [Act.put, layA, layB, layC])
       (refine tk 11 hS ?_; (try simp only [Act.put, layA, layB, layC]))
       (refine tk 12 hS ?_; (try simp only [Act.put, layA, layB, layC]))
       (refine tk 13 hS ?_; (try simp only [Act.put, layA, layB, layC]))
       (refine tk 14 hS ?_; (try simp only [Act.put, layA, layB, layC]))
       refine on 15 ?_
       refine callH (by go_simp; (first | done | with_reducible rfl | exact ⟨rfl, rfl⟩)) ?_
       go_at_call 91
       refine (areLabels_any _ _ _ _ _ gL2i.b (by omega)).mono ?_
       rintro e w_ ⟨rfl, rfl⟩
       refine ⟨.bool true, by rw [k4], hS, fun hS => ?_⟩
       (try simp only [Act.put, layA, layB, layC])
       (refine tk 16 hS ?_; (try simp only [Act.put, layA, layB, layC]))
       (refine tk 17 hS ?_; (try simp only [Act.put, layA, layB, layC]))
       (refine tk 18 hS ?_; (try simp only [Act.put, layA, layB, layC]))
       (refine tk 19 hS ?_; (try simp only [Act.put, layA, layB, layC]))
       (refine tk 20 hS ?_; (try simp only [Act.put, layA, layB, layC]))
       (refine tk 21 hS ?_; (try simp only [Act.put, layA, layB, layC]))
       (refine tk 22 hS ?_; (try simp only [Act.put, layA, layB, layC]))
       (refine tk 23 hS ?_; (try simp only [Act.put, layA, layB, layC]))
       (refine tk 24 hS ?_; (try simp only [Act.put, layA, layB, layC]))
       (refine tk 25 hS ?_; (try simp only [Act.put, layA, layB, layC]))
       (refine tk 26 hS ?_; (try simp only [Act.put, layA, layB, layC]))
       (refine tk 27 hS ?_; (try simp only [Act.put, layA, layB, layC]))
       (refine tk 28 hS ?_; (try simp only [Act.put, layA, layB, layC]))
       (refine tk 29 hS ?_; (try simp only [Act.put, layA, layB, layC]))
       (refine tk 30 hS ?_; (try simp only [Act.put, layA, layB, layC]))
       (refine tk 31 hS ?_; (try simp only [Act.put, layA, layB, layC]))
       (refine tk 32 hS ?_; (try simp only [Act.put, layA, layB, layC]))
       (refine ps 33 hS ?_; (try simp only [Act.put, layA, layB, layC]))
       (refine ps 34 hS ?_; (try simp only [Act.put, layA, layB, layC]))
       (refine ps 35 hS ?_; (try simp only [Act.put, layA, layB, layC]))
       (refine ps 36 hS ?_; (try simp only [Act.put, layA, layB, layC]))
       (refine ps 37 hS ?_; (try simp only [Act.put, layA, layB, layC]))
       (refine ps 38 hS ?_; (try simp only [Act.put, layA, layB, layC]))
       (refine ps 39 hS ?_; (try simp only [Act.put, layA, layB, layC]))
       (refine tk 40 hS ?_; (try simp only [Act.put, layA, layB, layC]))
       (refine tk 41 hS ?_; (try simp only [Act.put, layA, layB, layC]))
       clear hS
       refine wpAnyH_done (by kernel_rfl) ?_ _
       go_wp2
       go_ret
       exact ⟨ret_bool (by rw [HE.out, k1, k2, k3, k4, k5, k6]; simp), by repeat (with_reducible (first | assumption | exact Below.refl _ _ | refine Below.alloc ?_ (by first | omega | (simp; done) | (simp; omega)) _ | refine Below.setCell ?_ (by first | omega | (simp; done) | (simp; omega)) _ | refine Below.drew ?_ | refine below_drewN ?_ _))⟩
      | true =>
       cases k7 : ((gn2 : Int) == 2 * ((countG cL0 4 : Nat) : Int)) with
       | false =>
        go_enter Try.func60, Try.ntmps60
        go_wp2_with fail
        refine wp_region_held_drew (S := fun W => W.cell? ⟨w.heap.size, 0, none⟩ = some ((.slice cA0 cn0 cc0)) ∧ W.cell? ⟨w.heap.size, 1, none⟩ = some ((.slice cA1 cn1 cc1)) ∧ W.cell? ⟨w.heap.size + 1, 0, none⟩ = some (.int .i64 gI0) ∧ W.cell? ⟨w.heap.size + 1, 1, none⟩ = some ((.slice gA1 gn1 gc1)) ∧ W.cell? ⟨w.heap.size + 1, 2, none⟩ = some ((.slice gA2 gn2 gc2))) (by kernel_rfl) ⟨((Box.new (g := w.heap.size) _ #[(.slice cA0 cn0 cc0), (.slice cA1 cn1 cc1)] 27 (by simp)).alloc _).drew.two.1, ((Box.new (g := w.heap.size) _ #[(.slice cA0 cn0 cc0), (.slice cA1 cn1 cc1)] 27 (by simp)).alloc _).drew.two.2.1, (Box.new (g := w.heap.size + 1) _ #[.int .i64 gI0, (.slice gA1 gn1 gc1), (.slice gA2 gn2 gc2)] 33 (by simp)).drew.three.1, (Box.new (g := w.heap.size + 1) _ #[.int .i64 gI0, (.slice gA1 gn1 gc1), (.slice gA2 gn2 gc2)] 33 (by simp)).drew.three.2.1, (Box.new (g := w.heap.size + 1) _ #[.int .i64 gI0, (.slice gA1 gn1 gc1), (.slice gA2 gn2 gc2)] 33 (by simp)).drew.three.2.2.1⟩ (fun hS => ?_)
        (refine tk 0 hS ?_; (try simp only [Act.put, layA, layB, layC]))
        refine on 1 ?_
        refine callH (by go_simp; (first | done | with_reducible rfl | exact ⟨rfl, rfl⟩)) ?_
        go_at_call 86
        refine (iCircuitOk_L (RdL.b cH) cL0n cL1n).mono ?_
        rintro e w1 ⟨rfl, b1⟩
        clear hS
        have z1 := Below.size b1
        (try simp only [World.size_alloc, World.size_setCell, size_drew] at z1)
        have B1 : Below w.heap.size w w1 := Below.t b1
        have xc_ : Box w1 (w.heap.size) #[(.slice cA0 cn0 cc0), (.slice cA1 cn1 cc1)] 27 := (Box.b ((Box.new (g := w.heap.size) _ #[(.slice cA0 cn0 cc0), (.slice cA1 cn1 cc1)] 27 (by simp)).alloc _).drew b1)
        have xc := xc_; clear xc_
        have xg_ : Box w1 (w.heap.size + 1) #[.int .i64 gI0, (.slice gA1 gn1 gc1), (.slice gA2 gn2 gc2)] 33 := (Box.b (Box.new (g := w.heap.size + 1) _ #[.int .i64 gI0, (.slice gA1 gn1 gc1), (.slice gA2 gn2 gc2)] 33 (by simp)).drew b1)
        have xg := xg_; clear xg_
        refine ⟨.bool true, by rw [k1], ⟨xc.two.1, xc.two.2.1, xg.three.1, xg.three.2.1, xg.three.2.2.1⟩, fun hS => ?_⟩
        (try simp only [Act.put, layA, layB, layC])
        (refine tk 2 hS ?_; (try simp only [Act.put, layA, layB, layC]))
        (refine tk 3 hS ?_; (try simp only [Act.put, layA, layB, layC]))
        (refine tk 4 hS ?_; (try simp only [Act.put, layA, layB, layC]))
        refine on 5 ?_
        refine callH (by go_simp; (first | done | with_reducible rfl | exact ⟨rfl, rfl⟩)) ?_
        go_at_call 104
        refine (iIsLabel_any _ _).mono ?_
        rintro e w_ ⟨rfl, rfl⟩
        refine ⟨.bool true, by rw [k2], hS, fun hS => ?_⟩
        (try simp only [Act.put, layA, layB, layC])
        (refine tk 6 hS ?_; (try simp only [Act.put, layA, layB, layC]))
        (refine tk 7 hS ?_; (try simp only [Act.put, layA, layB, layC]))
        (refine tk 8 hS ?_; (try simp only [Act.put, layA, layB, layC]))
        (refine tk 9 hS ?_; (try simp only [Act.put, layA, layB, layC]))
        refine on 10 ?_
        refine callH (by go_simp; (first | done | with_reducible rfl | exact ⟨rfl, rfl⟩)) ?_
        go_at_call 91
        refine (areLabels_any _ _ _ _ _ gL1i.b (by omega)).mono ?_
        rintro e w_ ⟨rfl, rfl⟩
        refine ⟨.bool true, by rw [k3], hS, fun hS => ?_⟩
        (try simp only [Act.put, layA, layB, layC])
        (refine tk 11 hS ?_; (try simp only [Act.put, layA, layB, layC]))
        (refine tk 12 hS ?_; (try simp only [Act.put, layA, layB, layC]))
        (refine tk 13 hS ?_; (try simp only [Act.put, layA, layB, layC]))
        (refine tk 14 hS ?_; (try simp only [Act.put, layA, layB, layC]))
        refine on 15 ?_
        refine callH (by go_simp; (first | done | with_reducible rfl | exact ⟨rfl, rfl⟩)) ?_
        go_at_call 91
        refine (areLabels_any _ _ _ _ _ gL2i.b (by omega)).mono ?_
        rintro e w_ ⟨rfl, rfl⟩
        refine ⟨.bool true, by rw [k4], hS, fun hS => ?_⟩
        (try simp only [Act.put, layA, layB, layC])
        (refine tk 16 hS ?_; (try simp only [Act.put, layA, layB, layC]))
        (refine tk 17 hS ?_; (try simp only [Act.put, layA, layB, layC]))
        (refine tk 18 hS ?_; (try simp only [Act.put, layA, layB, layC]))
        (refine tk 19 hS ?_; (try simp only [Act.put, layA, layB, layC]))
        (refine tk 20 hS ?_; (try simp only [Act.put, layA, layB, layC]))
        (refine tk 21 hS ?_; (try simp only [Act.put, layA, layB, layC]))
        (refine tk 22 hS ?_; (try simp only [Act.put, layA, layB, layC]))
        (refine tk 23 hS ?_; (try simp only [Act.put, layA, layB, layC]))
        (refine tk 24 hS ?_; (try simp only [Act.put, layA, layB, layC]))
        (refine tk 25 hS ?_; (try simp only [Act.put, layA, layB, layC]))
        (refine tk 26 hS ?_; (try simp only [Act.put, layA, layB, layC]))
        (refine tk 27 hS ?_; (try simp only [Act.put, layA, layB, layC]))
        (refine tk 28 hS ?_; (try simp only [Act.put, layA, layB, layC]))
        (refine tk 29 hS ?_; (try simp only [Act.put, layA, layB, layC]))
        (refine tk 30 hS ?_; (try simp only [Act.put, layA, layB, layC]))
        (refine tk 31 hS ?_; (try simp only [Act.put, layA, layB, layC]))
        (refine tk 32 hS ?_; (try simp only [Act.put, layA, layB, layC]))
        (refine tk 33 hS ?_; (try simp only [Act.put, layA, layB, layC]))
        (refine tk 34 hS ?_; (try simp only [Act.put, layA, layB, layC]))
        (refine tk 35 hS ?_; (try simp only [Act.put, layA, layB, layC]))
        (refine tk 36 hS ?_; (try simp only [Act.put, layA, layB, layC]))
        refine on 37 ?_
        refine callH (by go_simp; (first | done | with_reducible rfl | exact ⟨rfl, rfl⟩)) ?_
        go_at_call 97
        refine (iCountGates_L (RdL.b cH) cL0n cL1n 4).mono ?_
        rintro e w2 ⟨rfl, b2⟩
        clear hS
        have z2 := Below.size b2
        (try simp only [World.size_alloc, World.size_setCell, size_drew] at z2)
        have B2 : Below w.heap.size w w2 := Below.t b2
        have xc_ : Box w2 (w.heap.size) #[(.slice cA0 cn0 cc0), (.slice cA1 cn1 cc1)] 27 := (Box.b xc b2)
        clear xc; have xc := xc_; clear xc_
        have xg_ : Box w2 (w.heap.size + 1) #[.int .i64 gI0, (.slice gA1 gn1 gc1), (.slice gA2 gn2 gc2)] 33 := (Box.b xg b2)
        clear xg; have xg := xg_; clear xg_
        refine ⟨_, rfl, ⟨xc.two.1, xc.two.2.1, xg.three.1, xg.three.2.1, xg.three.2.2.1⟩, fun hS => ?_⟩
        (try simp only [Act.put, layA, layB, layC])
        (refine tk 38 hS ?_; (try simp only [Act.put, layA, layB, layC]))
        (refine tk 39 hS ?_; (try simp only [Act.put, layA, layB, layC]))
        (refine tk 40 hS ?_; (try simp only [Act.put, layA, layB, layC]))
        (refine tk 41 hS ?_; (try simp only [Act.put, layA, layB, layC]))
        clear hS
        refine wpAnyH_done (by kernel_rfl) ?_ _
        go_wp2
        go_ret
        exact ⟨ret_bool (by rw [HE.out, k1, k2, k3, k4, k5, k6, k7]; simp), by repeat (with_reducible (first | assumption | exact Below.refl _ _ | refine Below.alloc ?_ (by first | omega | (simp; done) | (simp; omega)) _ | refine Below.setCell ?_ (by first | omega | (simp; done) | (simp; omega)) _ | refine Below.drew ?_ | refine below_drewN ?_ _))⟩
       | true =>
        go_enter Try.func60, Try.ntmps60
        go_wp2_with fail
        refine wp_region_held_drew (S := fun W => W.cell? ⟨w.heap.size, 0, none⟩ = some ((.slice cA0 cn0 cc0)) ∧ W.cell? ⟨w.heap.size, 1, none⟩ = some ((.slice cA1 cn1 cc1)) ∧ W.cell? ⟨w.heap.size + 1, 0, none⟩ = some (.int .i64 gI0) ∧ W.cell? ⟨w.heap.size + 1, 1, none⟩ = some ((.slice gA1 gn1 gc1)) ∧ W.cell? ⟨w.heap.size + 1, 2, none⟩ = some ((.slice gA2 gn2 gc2))) (by kernel_rfl) ⟨((Box.new (g := w.heap.size) _ #[(.slice cA0 cn0 cc0), (.slice cA1 cn1 cc1)] 27 (by simp)).alloc _).drew.two.1, ((Box.new (g := w.heap.size) _ #[(.slice cA0 cn0 cc0), (.slice cA1 cn1 cc1)] 27 (by simp)).alloc _).drew.two.2.1, (Box.new (g := w.heap.size + 1) _ #[.int .i64 gI0, (.slice gA1 gn1 gc1), (.slice gA2 gn2 gc2)] 33 (by simp)).drew.three.1, (Box.new (g := w.heap.size + 1) _ #[.int .i64 gI0, (.slice gA1 gn1 gc1), (.slice gA2 gn2 gc2)] 33 (by simp)).drew.three.2.1, (Box.new (g := w.heap.size + 1) _ #[.int .i64 gI0, (.slice gA1 gn1 gc1), (.slice gA2 gn2 gc2)] 33 (by simp)).drew.three.2.2.1⟩ (fun hS => ?_)
        (refine tk 0 hS ?_; (try simp only [Act.put, layA, layB, layC]))
        refine on 1 ?_
        refine callH (by go_simp; (first | done | with_reducible rfl | exact ⟨rfl, rfl⟩)) ?_
        go_at_call 86
        refine (iCircuitOk_L (RdL.b cH) cL0n cL1n).mono ?_
        rintro e w1 ⟨rfl, b1⟩
        clear hS
        have z1 := Below.size b1
        (try simp only [World.size_alloc, World.size_setCell, size_drew] at z1)
        have B1 : Below w.heap.size w w1 := Below.t b1
        have xc_ : Box w1 (w.heap.size) #[(.slice cA0 cn0 cc0), (.slice cA1 cn1 cc1)] 27 := (Box.b ((Box.new (g := w.heap.size) _ #[(.slice cA0 cn0 cc0), (.slice cA1 cn1 cc1)] 27 (by simp)).alloc _).drew b1)
        have xc := xc_; clear xc_
        have xg_ : Box w1 (w.heap.size + 1) #[.int .i64 gI0, (.slice gA1 gn1 gc1), (.slice gA2 gn2 gc2)] 33 := (Box.b (Box.new (g := w.heap.size + 1) _ #[.int .i64 gI0, (.slice gA1 gn1 gc1), (.slice gA2 gn2 gc2)] 33 (by simp)).drew b1)
        have xg := xg_; clear xg_
        refine ⟨.bool true, by rw [k1], ⟨xc.two.1, xc.two.2.1, xg.three.1, xg.three.2.1, xg.three.2.2.1⟩, fun hS => ?_⟩
        (try simp only [Act.put, layA, layB, layC])
        (refine tk 2 hS ?_; (try simp only [Act.put, layA, layB, layC]))
        (refine tk 3 hS ?_; (try simp only [Act.put, layA, layB, layC]))
        (refine tk 4 hS ?_; (try simp only [Act.put, layA, layB, layC]))
        refine on 5 ?_
        refine callH (by go_simp; (first | done | with_reducible rfl | exact ⟨rfl, rfl⟩)) ?_
        go_at_call 104
        refine (iIsLabel_any _ _).mono ?_
        rintro e w_ ⟨rfl, rfl⟩
        refine ⟨.bool true, by rw [k2], hS, fun hS => ?_⟩
        (try simp only [Act.put, layA, layB, layC])
        (refine tk 6 hS ?_; (try simp only [Act.put, layA, layB, layC]))
        (refine tk 7 hS ?_; (try simp only [Act.put, layA, layB, layC]))
        (refine tk 8 hS ?_; (try simp only [Act.put, layA, layB, layC]))
        (refine tk 9 hS ?_; (try simp only [Act.put, layA, layB, layC]))
        refine on 10 ?_
        refine callH (by go_simp; (first | done | with_reducible rfl | exact ⟨rfl, rfl⟩)) ?_
        go_at_call 91
        refine (areLabels_any _ _ _ _ _ gL1i.b (by omega)).mono ?_
        rintro e w_ ⟨rfl, rfl⟩
        refine ⟨.bool true, by rw [k3], hS, fun hS => ?_⟩
        (try simp only [Act.put, layA, layB, layC])
        (refine tk 11 hS ?_; (try simp only [Act.put, layA, layB, layC]))
        (refine tk 12 hS ?_; (try simp only [Act.put, layA, layB, layC]))
        (refine tk 13 hS ?_; (try simp only [Act.put, layA, layB, layC]))
        (refine tk 14 hS ?_; (try simp only [Act.put, layA, layB, layC]))
        refine on 15 ?_
        refine callH (by go_simp; (first | done | with_reducible rfl | exact ⟨rfl, rfl⟩)) ?_
        go_at_call 91
        refine (areLabels_any _ _ _ _ _ gL2i.b (by omega)).mono ?_
        rintro e w_ ⟨rfl, rfl⟩
        refine ⟨.bool true, by rw [k4], hS, fun hS => ?_⟩
        (try simp only [Act.put, layA, layB, layC])
        (refine tk 16 hS ?_; (try simp only [Act.put, layA, layB, layC]))
        (refine tk 17 hS ?_; (try simp only [Act.put, layA, layB, layC]))
        (refine tk 18 hS ?_; (try simp only [Act.put, layA, layB, layC]))
        (refine tk 19 hS ?_; (try simp only [Act.put, layA, layB, layC]))
        (refine tk 20 hS ?_; (try simp only [Act.put, layA, layB, layC]))
        (refine tk 21 hS ?_; (try simp only [Act.put, layA, layB, layC]))
        (refine tk 22 hS ?_; (try simp only [Act.put, layA, layB, layC]))
        (refine tk 23 hS ?_; (try simp only [Act.put, layA, layB, layC]))
        (refine tk 24 hS ?_; (try simp only [Act.put, layA, layB, layC]))
        (refine tk 25 hS ?_; (try simp only [Act.put, layA, layB, layC]))
        (refine tk 26 hS ?_; (try simp only [Act.put, layA, layB, layC]))
        (refine tk 27 hS ?_; (try simp only [Act.put, layA, layB, layC]))
        (refine tk 28 hS ?_; (try simp only [Act.put, layA, layB, layC]))
        (refine tk 29 hS ?_; (try simp only [Act.put, layA, layB, layC]))
        (refine tk 30 hS ?_; (try simp only [Act.put, layA, layB, layC]))
        (refine tk 31 hS ?_; (try simp only [Act.put, layA, layB, layC]))
        (refine tk 32 hS ?_; (try simp only [Act.put, layA, layB, layC]))
        (refine tk 33 hS ?_; (try simp only [Act.put, layA, layB, layC]))
        (refine tk 34 hS ?_; (try simp only [Act.put, layA, layB, layC]))
        (refine tk 35 hS ?_; (try simp only [Act.put, layA, layB, layC]))
        (refine tk 36 hS ?_; (try simp only [Act.put, layA, layB, layC]))
        refine on 37 ?_
        refine callH (by go_simp; (first | done | with_reducible rfl | exact ⟨rfl, rfl⟩)) ?_
        go_at_call 97
        refine (iCountGates_L (RdL.b cH) cL0n cL1n 4).mono ?_
        rintro e w2 ⟨rfl, b2⟩
        clear hS
        have z2 := Below.size b2
        (try simp only [World.size_alloc, World.size_setCell, size_drew] at z2)
        have B2 : Below w.heap.size w w2 := Below.t b2
        have xc_ : Box w2 (w.heap.size) #[(.slice cA0 cn0 cc0), (.slice cA1 cn1 cc1)] 27 := (Box.b xc b2)
        clear xc; have xc := xc_; clear xc_
        have xg_ : Box w2 (w.heap.size + 1) #[.int .i64 gI0, (.slice gA1 gn1 gc1), (.slice gA2 gn2 gc2)] 33 := (Box.b xg b2)
        clear xg; have xg := xg_; clear xg_
        refine ⟨_, rfl, ⟨xc.two.1, xc.two.2.1, xg.three.1, xg.three.2.1, xg.three.2.2.1⟩, fun hS => ?_⟩
        (try simp only [Act.put, layA, layB, layC])
        (refine tk 38 hS ?_; (try simp only [Act.put, layA, layB, layC]))
        (refine tk 39 hS ?_; (try simp only [Act.put, layA, layB, layC]))
        (refine tk 40 hS ?_; (try simp only [Act.put, layA, layB, layC]))
        (refine tk 41 hS ?_; (try simp only [Act.put, layA, layB, layC]))
        clear hS
        refine wpAnyH_done (by kernel_rfl) ?_ _
        go_wp2
        go_ret
        exact ⟨ret_bool (by rw [HE.out, k1, k2, k3, k4, k5, k6, k7]; simp), by repeat (with_reducible (first | assumption | exact Below.refl _ _ | refine Below.alloc ?_ (by first | omega | (simp; done) | (simp; omega)) _ | refine Below.setCell ?_ (by first | omega | (simp; done) | (simp; omega)) _ | refine Below.drew ?_ | refine below_drewN ?_ _))⟩
set_option maxRecDepth 100000 in
set_option maxHeartbeats 2000000 in
theorem sGarbledOk_L {cA0 : Option Addr} {cn0 cc0 : Nat} {cL0 : List (Int × Int × Int)} {cA1 : Option Addr} {cn1 cc1 : Nat} {cL1 : List Int} {gA1 : Option Addr} {gn1 gc1 : Nat} {gL1 : List Int} {gA2 : Option Addr} {gn2 gc2 : Nat} {gL2 : List Int} {w : World} (cH : RdL w [((.slice cA0 cn0 cc0), .gates cL0), ((.slice cA1 cn1 cc1), .ints cL1)]) (cL0n : cL0.length ≤ 1048576) (cL1n : cL1.length ≤ 1048576) (gI0 : Int) (gH : RdL w [((.slice gA1 gn1 gc1), .ints gL1), ((.slice gA2 gn2 gc2), .ints gL2)]) (gL1n : gL1.length ≤ 1048576) (gL2n : gL2.length ≤ 1048576) :
  Calls Try.prog 58 #[.agg #[(.slice cA0 cn0 cc0), (.slice cA1 cn1 cc1)], .agg #[.int .i64 gI0, (.slice gA1 gn1 gc1), (.slice gA2 gn2 gc2)]] w fun e w' => e = .returned (.bool (gbOk cL0 cL1 gI0 gL1 gL2)) ∧ Below w.heap.size w w' := by
 have cL0g : Gates w cA0 cn0 cL0 := RdG.toG (cH ((.slice cA0 cn0 cc0), .gates cL0) (by simp))
 have cL0l := Lib.hid cL0g.1
 have cL0m : cn0 ≤ 1048576 := by rw [← cL0l.out]; exact cL0n
 have cL1i : Ints w cA1 cn1 cL1 := Rd.toInts (cH ((.slice cA1 cn1 cc1), .ints cL1) (by simp))
 have cL1l := Lib.hid cL1i.len
 have cL1m : cn1 ≤ 1048576 := by rw [← cL1l.out]; exact cL1n
 have gL1i : Ints w gA1 gn1 gL1 := Rd.toInts (gH ((.slice gA1 gn1 gc1), .ints gL1) (by simp))
 have gL1l := Lib.hid gL1i.len
 have gL1m : gn1 ≤ 1048576 := by rw [← gL1l.out]; exact gL1n
 have gL2i : Ints w gA2 gn2 gL2 := Rd.toInts (gH ((.slice gA2 gn2 gc2), .ints gL2) (by simp))
 have gL2l := Lib.hid gL2i.len
 have gL2m : gn2 ≤ 1048576 := by rw [← gL2l.out]; exact gL2n
 have HE := Lib.hid (show gbOk cL0 cL1 gI0 gL1 gL2 = (circOk cL0 cL1 && lab gI0 && (bits .and .i64 gI0 1 == 1) && labelsOk gL1 (cn0 : Int) && labelsOk gL2 (2 * ((countG cL0 4 : Nat) : Int))) by rw [gbOk, cL0l.out])
 have hc4 : countG cL0 4 ≤ 1048576 := Nat.le_trans (cntG_le _ _ _) cL0n
 have hw1 : IntKind.i64.wrap (2 * ((countG cL0 4 : Nat) : Int)) = 2 * ((countG cL0 4 : Nat) : Int) := by (rw [IntKind.wrap_i64]; (first | omega | (unfold wrap64; omega)))
 cases k1 : circOk cL0 cL1 with
 | false =>
  go_enter Try.func58, Try.ntmps58
  go_wp2_with fail
  refine wp_region_held_drew (S := fun W => W.cell? ⟨w.heap.size, 0, none⟩ = some ((.slice cA0 cn0 cc0)) ∧ W.cell? ⟨w.heap.size, 1, none⟩ = some ((.slice cA1 cn1 cc1)) ∧ W.cell? ⟨w.heap.size + 1, 0, none⟩ = some (.int .i64 gI0) ∧ W.cell? ⟨w.heap.size + 1, 1, none⟩ = some ((.slice gA1 gn1 gc1)) ∧ W.cell? ⟨w.heap.size + 1, 2, none⟩ = some ((.slice gA2 gn2 gc2))) (by kernel_rfl) ⟨((Box.new (g := w.heap.size) _ #[(.slice cA0 cn0 cc0), (.slice cA1 cn1 cc1)] 27 (by simp)).alloc _).drew.two.1, ((Box.new (g := w.heap.size) _ #[(.slice cA0 cn0 cc0), (.slice cA1 cn1 cc1)] 27 (by simp)).alloc _).drew.two.2.1, (Box.new (g := w.heap.size + 1) _ #[.int .i64 gI0, (.slice gA1 gn1 gc1), (.slice gA2 gn2 gc2)] 33 (by simp)).drew.three.1, (Box.new (g := w.heap.size + 1) _ #[.int .i64 gI0, (.slice gA1 gn1 gc1), (.slice gA2 gn2 gc2)] 33 (by simp)).drew.three.2.1, (Box.new (g := w.heap.size + 1) _ #[.int .i64 gI0, (.slice gA1 gn1 gc1), (.slice gA2 gn2 gc2)] 33 (by simp)).drew.three.2.2.1⟩ (fun hS => ?_)
  (refine tk 0 hS ?_; (try simp only [Act.put, layA, layB, layC]))
  refine on 1 ?_
  refine callH (by go_simp; (first | done | with_reducible rfl | exact ⟨rfl, rfl⟩)) ?_
  go_at_call 93
  refine (sCircuitOk_L (RdL.b cH) cL0n cL1n).mono ?_
  rintro e w1 ⟨rfl, b1⟩
  clear hS
  have z1 := Below.size b1
  (try simp only [World.size_alloc, World.size_setCell, size_drew] at z1)
  have B1 : Below w.heap.size w w1 := Below.t b1
  have xc_ : Box w1 (w.heap.size) #[(.slice cA0 cn0 cc0), (.slice cA1 cn1 cc1)] 27 := (Box.b ((Box.new (g := w.heap.size) _ #[(.slice cA0 cn0 cc0), (.slice cA1 cn1 cc1)] 27 (by simp)).alloc _).drew b1)
  have xc := xc_; clear xc_
  have xg_ : Box w1 (w.heap.size + 1) #[.int .i64 gI0, (.slice gA1 gn1 gc1), (.slice gA2 gn2 gc2)] 33 := (Box.b (Box.new (g := w.heap.size + 1) _ #[.int .i64 gI0, (.slice gA1 gn1 gc1), (.slice gA2 gn2 gc2)] 33 (by simp)).drew b1)
  have xg := xg_; clear xg_
  refine ⟨.bool false, by rw [k1], ⟨xc.two.1, xc.two.2.1, xg.three.1, xg.three.2.1, xg.three.2.2.1⟩, fun hS => ?_⟩
  (try simp only [Act.put, layA, layB, layC])
  (refine tk 2 hS ?_; (try simp only [Act.put, layA, layB, layC]))
  (refine ps 3 hS ?_; (try simp only [Act.put, layA, layB, layC]))
  (refine ps 4 hS ?_; (try simp only [Act.put, layA, layB, layC]))
  (refine ps 5 hS ?_; (try simp only [Act.put, layA, layB, layC]))
  (refine tk 6 hS ?_; (try simp only [Act.put, layA, layB, layC]))
  (refine tk 7 hS ?_; (try simp only [Act.put, layA, layB, layC]))
  (refine ps 8 hS ?_; (try simp only [Act.put, layA, layB, layC]))
  (refine ps 9 hS ?_; (try simp only [Act.put, layA, layB, layC]))
  (refine ps 10 hS ?_; (try simp only [Act.put, layA, layB, layC]))
  (refine ps 11 hS ?_; (try simp only [Act.put, layA, layB, layC]))
  (refine tk 12 hS ?_; (try simp only [Act.put, layA, layB, layC]))
  (refine tk 13 hS ?_; (try simp only [Act.put, layA, layB, layC]))
  (refine ps 14 hS ?_; (try simp only [Act.put, layA, layB, layC]))
  (refine ps 15 hS ?_; (try simp only [Act.put, layA, layB, layC]))
  (refine ps 16 hS ?_; (try simp only [Act.put, layA, layB, layC]))
  (refine ps 17 hS ?_; (try simp only [Act.put, layA, layB, layC]))
  (refine ps 18 hS ?_; (try simp only [Act.put, layA, layB, layC]))
  (refine ps 19 hS ?_; (try simp only [Act.put, layA, layB, layC]))
  (refine tk 20 hS ?_; (try simp only [Act.put, layA, layB, layC]))
  (refine tk 21 hS ?_; (try simp only [Act.put, layA, layB, layC]))
  (refine ps 22 hS ?_; (try simp only [Act.put, layA, layB, layC]))
  (refine ps 23 hS ?_; (try simp only [Act.put, layA, layB, layC]))
  (refine ps 24 hS ?_; (try simp only [Act.put, layA, layB, layC]))
  (refine ps 25 hS ?_; (try simp only [Act.put, layA, layB, layC]))
  (refine ps 26 hS ?_; (try simp only [Act.put, layA, layB, layC]))
  (refine ps 27 hS ?_; (try simp only [Act.put, layA, layB, layC]))
  (refine tk 28 hS ?_; (try simp only [Act.put, layA, layB, layC]))
  (refine tk 29 hS ?_; (try simp only [Act.put, layA, layB, layC]))
  clear hS
  refine wpAnyH_done (by kernel_rfl) ?_ _
  go_wp2
  go_ret
  exact ⟨ret_bool (by rw [HE.out, k1]; simp), by repeat (with_reducible (first | assumption | exact Below.refl _ _ | refine Below.alloc ?_ (by first | omega | (simp; done) | (simp; omega)) _ | refine Below.setCell ?_ (by first | omega | (simp; done) | (simp; omega)) _ | refine Below.drew ?_ | refine below_drewN ?_ _))⟩
 | true =>
  cases k2 : lab gI0 with
  | false =>
   go_enter Try.func58, Try.ntmps58
   go_wp2_with fail
   refine wp_region_held_drew (S := fun W => W.cell? ⟨w.heap.size, 0, none⟩ = some ((.slice cA0 cn0 cc0)) ∧ W.cell? ⟨w.heap.size, 1, none⟩ = some ((.slice cA1 cn1 cc1)) ∧ W.cell? ⟨w.heap.size + 1, 0, none⟩ = some (.int .i64 gI0) ∧ W.cell? ⟨w.heap.size + 1, 1, none⟩ = some ((.slice gA1 gn1 gc1)) ∧ W.cell? ⟨w.heap.size + 1, 2, none⟩ = some ((.slice gA2 gn2 gc2))) (by kernel_rfl) ⟨((Box.new (g := w.heap.size) _ #[(.slice cA0 cn0 cc0), (.slice cA1 cn1 cc1)] 27 (by simp)).alloc _).drew.two.1, ((Box.new (g := w.heap.size) _ #[(.slice cA0 cn0 cc0), (.slice cA1 cn1 cc1)] 27 (by simp)).alloc _).drew.two.2.1, (Box.new (g := w.heap.size + 1) _ #[.int .i64 gI0, (.slice gA1 gn1 gc1), (.slice gA2 gn2 gc2)] 33 (by simp)).drew.three.1, (Box.new (g := w.heap.size + 1) _ #[.int .i64 gI0, (.slice gA1 gn1 gc1), (.slice gA2 gn2 gc2)] 33 (by simp)).drew.three.2.1, (Box.new (g := w.heap.size + 1) _ #[.int .i64 gI0, (.slice gA1 gn1 gc1), (.slice gA2 gn2 gc2)] 33 (by simp)).drew.three.2.2.1⟩ (fun hS => ?_)
   (refine tk 0 hS ?_; (try simp only [Act.put, layA, layB, layC]))
   refine on 1 ?_
   refine callH (by go_simp; (first | done | with_reducible rfl | exact ⟨rfl, rfl⟩)) ?_
   go_at_call 93
   refine (sCircuitOk_L (RdL.b cH) cL0n cL1n).mono ?_
   rintro e w1 ⟨rfl, b1⟩
   clear hS
   have z1 := Below.size b1
   (try simp only [World.size_alloc, World.size_setCell, size_drew] at z1)
   have B1 : Below w.heap.size w w1 := Below.t b1
   have xc_ : Box w1 (w.heap.size) #[(.slice cA0 cn0 cc0), (.slice cA1 cn1 cc1)] 27 := (Box.b ((Box.new (g := w.heap.size) _ #[(.slice cA0 cn0 cc0), (.slice cA1 cn1 cc1)] 27 (by simp)).alloc _).drew b1)
   have xc := xc_; clear xc_
   have xg_ : Box w1 (w.heap.size + 1) #[.int .i64 gI0, (.slice gA1 gn1 gc1), (.slice gA2 gn2 gc2)] 33 := (Box.b (Box.new (g := w.heap.size + 1) _ #[.int .i64 gI0, (.slice gA1 gn1 gc1), (.slice gA2 gn2 gc2)] 33 (by simp)).drew b1)
   have xg := xg_; clear xg_
   refine ⟨.bool true, by rw [k1], ⟨xc.two.1, xc.two.2.1, xg.three.1, xg.three.2.1, xg.three.2.2.1⟩, fun hS => ?_⟩
   (try simp only [Act.put, layA, layB, layC])
   (refine tk 2 hS ?_; (try simp only [Act.put, layA, layB, layC]))
   (refine tk 3 hS ?_; (try simp only [Act.put, layA, layB, layC]))
   (refine tk 4 hS ?_; (try simp only [Act.put, layA, layB, layC]))
   refine on 5 ?_
   refine callH (by go_simp; (first | done | with_reducible rfl | exact ⟨rfl, rfl⟩)) ?_
   go_at_call 95
   refine (sIsLabel_any _ _).mono ?_
   rintro e w_ ⟨rfl, rfl⟩
   refine ⟨.bool false, by rw [k2], hS, fun hS => ?_⟩
   (try simp only [Act.put, layA, layB, layC])
   (refine tk 6 hS ?_; (try simp only [Act.put, layA, layB, layC]))
   (refine tk 7 hS ?_; (try simp only [Act.put, layA, layB, layC]))
   (refine ps 8 hS ?_; (try simp only [Act.put, layA, layB, layC]))
   (refine ps 9 hS ?_; (try simp only [Act.put, layA, layB, layC]))
   (refine ps 10 hS ?_; (try simp only [Act.put, layA, layB, layC]))
   (refine ps 11 hS ?_; (try simp only [Act.put, layA, layB, layC]))
   (refine tk 12 hS ?_; (try simp only [Act.put, layA, layB, layC]))
   (refine tk 13 hS ?_; (try simp only [Act.put, layA, layB, layC]))
   (refine ps 14 hS ?_; (try simp only [Act.put, layA, layB, layC]))
   (refine ps 15 hS ?_; (try simp only [Act.put, layA, layB, layC]))
   (refine ps 16 hS ?_; (try simp only [Act.put, layA, layB, layC]))
   (refine ps 17 hS ?_; (try simp only [Act.put, layA, layB, layC]))
   (refine ps 18 hS ?_; (try simp only [Act.put, layA, layB, layC]))
   (refine ps 19 hS ?_; (try simp only [Act.put, layA, layB, layC]))
   (refine tk 20 hS ?_; (try simp only [Act.put, layA, layB, layC]))
   (refine tk 21 hS ?_; (try simp only [Act.put, layA, layB, layC]))
   (refine ps 22 hS ?_; (try simp only [Act.put, layA, layB, layC]))
   (refine ps 23 hS ?_; (try simp only [Act.put, layA, layB, layC]))
   (refine ps 24 hS ?_; (try simp only [Act.put, layA, layB, layC]))
   (refine ps 25 hS ?_; (try simp only [Act.put, layA, layB, layC]))
   (refine ps 26 hS ?_; (try simp only [Act.put, layA, layB, layC]))
   (refine ps 27 hS ?_; (try simp only [Act.put, layA, layB, layC]))
   (refine tk 28 hS ?_; (try simp only [Act.put, layA, layB, layC]))
   (refine tk 29 hS ?_; (try simp only [Act.put, layA, layB, layC]))
   clear hS
   refine wpAnyH_done (by kernel_rfl) ?_ _
   go_wp2
   go_ret
   exact ⟨ret_bool (by rw [HE.out, k1, k2]; simp), by repeat (with_reducible (first | assumption | exact Below.refl _ _ | refine Below.alloc ?_ (by first | omega | (simp; done) | (simp; omega)) _ | refine Below.setCell ?_ (by first | omega | (simp; done) | (simp; omega)) _ | refine Below.drew ?_ | refine below_drewN ?_ _))⟩
  | true =>
   cases k3 : (bits .and .i64 gI0 1 == 1) with
   | false =>
    go_enter Try.func58, Try.ntmps58
    go_wp2_with fail
    refine wp_region_held_drew (S := fun W => W.cell? ⟨w.heap.size, 0, none⟩ = some ((.slice cA0 cn0 cc0)) ∧ W.cell? ⟨w.heap.size, 1, none⟩ = some ((.slice cA1 cn1 cc1)) ∧ W.cell? ⟨w.heap.size + 1, 0, none⟩ = some (.int .i64 gI0) ∧ W.cell? ⟨w.heap.size + 1, 1, none⟩ = some ((.slice gA1 gn1 gc1)) ∧ W.cell? ⟨w.heap.size + 1, 2, none⟩ = some ((.slice gA2 gn2 gc2))) (by kernel_rfl) ⟨((Box.new (g := w.heap.size) _ #[(.slice cA0 cn0 cc0), (.slice cA1 cn1 cc1)] 27 (by simp)).alloc _).drew.two.1, ((Box.new (g := w.heap.size) _ #[(.slice cA0 cn0 cc0), (.slice cA1 cn1 cc1)] 27 (by simp)).alloc _).drew.two.2.1, (Box.new (g := w.heap.size + 1) _ #[.int .i64 gI0, (.slice gA1 gn1 gc1), (.slice gA2 gn2 gc2)] 33 (by simp)).drew.three.1, (Box.new (g := w.heap.size + 1) _ #[.int .i64 gI0, (.slice gA1 gn1 gc1), (.slice gA2 gn2 gc2)] 33 (by simp)).drew.three.2.1, (Box.new (g := w.heap.size + 1) _ #[.int .i64 gI0, (.slice gA1 gn1 gc1), (.slice gA2 gn2 gc2)] 33 (by simp)).drew.three.2.2.1⟩ (fun hS => ?_)
    (refine tk 0 hS ?_; (try simp only [Act.put, layA, layB, layC]))
    refine on 1 ?_
    refine callH (by go_simp; (first | done | with_reducible rfl | exact ⟨rfl, rfl⟩)) ?_
    go_at_call 93
    refine (sCircuitOk_L (RdL.b cH) cL0n cL1n).mono ?_
    rintro e w1 ⟨rfl, b1⟩
    clear hS
    have z1 := Below.size b1
    (try simp only [World.size_alloc, World.size_setCell, size_drew] at z1)
    have B1 : Below w.heap.size w w1 := Below.t b1
    have xc_ : Box w1 (w.heap.size) #[(.slice cA0 cn0 cc0), (.slice cA1 cn1 cc1)] 27 := (Box.b ((Box.new (g := w.heap.size) _ #[(.slice cA0 cn0 cc0), (.slice cA1 cn1 cc1)] 27 (by simp)).alloc _).drew b1)
    have xc := xc_; clear xc_
    have xg_ : Box w1 (w.heap.size + 1) #[.int .i64 gI0, (.slice gA1 gn1 gc1), (.slice gA2 gn2 gc2)] 33 := (Box.b (Box.new (g := w.heap.size + 1) _ #[.int .i64 gI0, (.slice gA1 gn1 gc1), (.slice gA2 gn2 gc2)] 33 (by simp)).drew b1)
    have xg := xg_; clear xg_
    refine ⟨.bool true, by rw [k1], ⟨xc.two.1, xc.two.2.1, xg.three.1, xg.three.2.1, xg.three.2.2.1⟩, fun hS => ?_⟩
    (try simp only [Act.put, layA, layB, layC])
    (refine tk 2 hS ?_; (try simp only [Act.put, layA, layB, layC]))
    (refine tk 3 hS ?_; (try simp only [Act.put, layA, layB, layC]))
    (refine tk 4 hS ?_; (try simp only [Act.put, layA, layB, layC]))
    refine on 5 ?_
    refine callH (by go_simp; (first | done | with_reducible rfl | exact ⟨rfl, rfl⟩)) ?_
    go_at_call 95
    refine (sIsLabel_any _ _).mono ?_
    rintro e w_ ⟨rfl, rfl⟩
    refine ⟨.bool true, by rw [k2], hS, fun hS => ?_⟩
    (try simp only [Act.put, layA, layB, layC])
    (refine tk 6 hS ?_; (try simp only [Act.put, layA, layB, layC]))
    (refine tk 7 hS ?_; (try simp only [Act.put, layA, layB, layC]))
    (refine tk 8 hS ?_; (try simp only [Act.put, layA, layB, layC]))
    (refine tk 9 hS ?_; (try simp only [Act.put, layA, layB, layC]))
    (refine tk 10 hS ?_; (try simp only [Act.put, layA, layB, layC]))
    (refine tk 11 hS ?_; (try simp only [Act.put, layA, layB, layC]))
    (refine tk 12 hS ?_; (try simp only [Act.put, layA, layB, layC]))
    (refine tk 13 hS ?_; (try simp only [Act.put, layA, layB, layC]))
    (refine ps 14 hS ?_; (try simp only [Act.put, layA, layB, layC]))
    (refine ps 15 hS ?_; (try simp only [Act.put, layA, layB, layC]))
    (refine ps 16 hS ?_; (try simp only [Act.put, layA, layB, layC]))
    (refine ps 17 hS ?_; (try simp only [Act.put, layA, layB, layC]))
    (refine ps 18 hS ?_; (try simp only [Act.put, layA, layB, layC]))
    (refine ps 19 hS ?_; (try simp only [Act.put, layA, layB, layC]))
    (refine tk 20 hS ?_; (try simp only [Act.put, layA, layB, layC]))
    (refine tk 21 hS ?_; (try simp only [Act.put, layA, layB, layC]))
    (refine ps 22 hS ?_; (try simp only [Act.put, layA, layB, layC]))
    (refine ps 23 hS ?_; (try simp only [Act.put, layA, layB, layC]))
    (refine ps 24 hS ?_; (try simp only [Act.put, layA, layB, layC]))
    (refine ps 25 hS ?_; (try simp only [Act.put, layA, layB, layC]))
    (refine ps 26 hS ?_; (try simp only [Act.put, layA, layB, layC]))
    (refine ps 27 hS ?_; (try simp only [Act.put, layA, layB, layC]))
    (refine tk 28 hS ?_; (try simp only [Act.put, layA, layB, layC]))
    (refine tk 29 hS ?_; (try simp only [Act.put, layA, layB, layC]))
    clear hS
    refine wpAnyH_done (by kernel_rfl) ?_ _
    go_wp2
    go_ret
    exact ⟨ret_bool (by rw [HE.out, k1, k2, k3]; simp), by repeat (with_reducible (first | assumption | exact Below.refl _ _ | refine Below.alloc ?_ (by first | omega | (simp; done) | (simp; omega)) _ | refine Below.setCell ?_ (by first | omega | (simp; done) | (simp; omega)) _ | refine Below.drew ?_ | refine below_drewN ?_ _))⟩
   | true =>
    cases k4 : labelsOk gL1 (cn0 : Int) with
    | false =>
     go_enter Try.func58, Try.ntmps58
     go_wp2_with fail
     refine wp_region_held_drew (S := fun W => W.cell? ⟨w.heap.size, 0, none⟩ = some ((.slice cA0 cn0 cc0)) ∧ W.cell? ⟨w.heap.size, 1, none⟩ = some ((.slice cA1 cn1 cc1)) ∧ W.cell? ⟨w.heap.size + 1, 0, none⟩ = some (.int .i64 gI0) ∧ W.cell? ⟨w.heap.size + 1, 1, none⟩ = some ((.slice gA1 gn1 gc1)) ∧ W.cell? ⟨w.heap.size + 1, 2, none⟩ = some ((.slice gA2 gn2 gc2))) (by kernel_rfl) ⟨((Box.new (g := w.heap.size) _ #[(.slice cA0 cn0 cc0), (.slice cA1 cn1 cc1)] 27 (by simp)).alloc _).drew.two.1, ((Box.new (g := w.heap.size) _ #[(.slice cA0 cn0 cc0), (.slice cA1 cn1 cc1)] 27 (by simp)).alloc _).drew.two.2.1, (Box.new (g := w.heap.size + 1) _ #[.int .i64 gI0, (.slice gA1 gn1 gc1), (.slice gA2 gn2 gc2)] 33 (by simp)).drew.three.1, (Box.new (g := w.heap.size + 1) _ #[.int .i64 gI0, (.slice gA1 gn1 gc1), (.slice gA2 gn2 gc2)] 33 (by simp)).drew.three.2.1, (Box.new (g := w.heap.size + 1) _ #[.int .i64 gI0, (.slice gA1 gn1 gc1), (.slice gA2 gn2 gc2)] 33 (by simp)).drew.three.2.2.1⟩ (fun hS => ?_)
     (refine tk 0 hS ?_; (try simp only [Act.put, layA, layB, layC]))
     refine on 1 ?_
     refine callH (by go_simp; (first | done | with_reducible rfl | exact ⟨rfl, rfl⟩)) ?_
     go_at_call 93
     refine (sCircuitOk_L (RdL.b cH) cL0n cL1n).mono ?_
     rintro e w1 ⟨rfl, b1⟩
     clear hS
     have z1 := Below.size b1
     (try simp only [World.size_alloc, World.size_setCell, size_drew] at z1)
     have B1 : Below w.heap.size w w1 := Below.t b1
     have xc_ : Box w1 (w.heap.size) #[(.slice cA0 cn0 cc0), (.slice cA1 cn1 cc1)] 27 := (Box.b ((Box.new (g := w.heap.size) _ #[(.slice cA0 cn0 cc0), (.slice cA1 cn1 cc1)] 27 (by simp)).alloc _).drew b1)
     have xc := xc_; clear xc_
     have xg_ : Box w1 (w.heap.size + 1) #[.int .i64 gI0, (.slice gA1 gn1 gc1), (.slice gA2 gn2 gc2)] 33 := (Box.b (Box.new (g := w.heap.size + 1) _ #[.int .i64 gI0, (.slice gA1 gn1 gc1), (.slice gA2 gn2 gc2)] 33 (by simp)).drew b1)
     have xg := xg_; clear xg_
     refine ⟨.bool true, by rw [k1], ⟨xc.two.1, xc.two.2.1, xg.three.1, xg.three.2.1, xg.three.2.2.1⟩, fun hS => ?_⟩
     (try simp only [Act.put, layA, layB, layC])
     (refine tk 2 hS ?_; (try simp only [Act.put, layA, layB, layC]))
     (refine tk 3 hS ?_; (try simp only [Act.put, layA, layB, layC]))
     (refine tk 4 hS ?_; (try simp only [Act.put, layA, layB, layC]))
     refine on 5 ?_
     refine callH (by go_simp; (first | done | with_reducible rfl | exact ⟨rfl, rfl⟩)) ?_
     go_at_call 95
     refine (sIsLabel_any _ _).mono ?_
     rintro e w_ ⟨rfl, rfl⟩
     refine ⟨.bool true, by rw [k2], hS, fun hS => ?_⟩
     (try simp only [Act.put, layA, layB, layC])
     (refine tk 6 hS ?_; (try simp only [Act.put, layA, layB, layC]))
     (refine tk 7 hS ?_; (try simp only [Act.put, layA, layB, layC]))
     (refine tk 8 hS ?_; (try simp only [Act.put, layA, layB, layC]))
     (refine tk 9 hS ?_; (try simp only [Act.put, layA, layB, layC]))
     (refine tk 10 hS ?_; (try simp only [Act.put, layA, layB, layC]))
     (refine tk 11 hS ?_; (try simp only [Act.put, layA, layB, layC]))
     (refine tk 12 hS ?_; (try simp only [Act.put, layA, layB, layC]))
     (refine tk 13 hS ?_; (try simp only [Act.put, layA, layB, layC]))
     (refine tk 14 hS ?_; (try simp only [Act.put, layA, layB, layC]))
     (refine tk 15 hS ?_; (try simp only [Act.put, layA, layB, layC]))
     (refine tk 16 hS ?_; (try simp only [Act.put, layA, layB, layC]))
     (refine tk 17 hS ?_; (try simp only [Act.put, layA, layB, layC]))
     (refine tk 18 hS ?_; (try simp only [Act.put, layA, layB, layC]))
     refine on 19 ?_
     refine callH (by go_simp; (first | done | with_reducible rfl | exact ⟨rfl, rfl⟩)) ?_
     go_at_call 113
     refine (l18Labels_any _ _ _ _ _ _ gL1i.b (by omega)).mono ?_
     rintro e w_ ⟨rfl, rfl⟩
     refine ⟨.bool false, by rw [k4], hS, fun hS => ?_⟩
     (try simp only [Act.put, layA, layB, layC])
     (refine tk 20 hS ?_; (try simp only [Act.put, layA, layB, layC]))
     (refine tk 21 hS ?_; (try simp only [Act.put, layA, layB, layC]))
     (refine ps 22 hS ?_; (try simp only [Act.put, layA, layB, layC]))
     (refine ps 23 hS ?_; (try simp only [Act.put, layA, layB, layC]))
     (refine ps 24 hS ?_; (try simp only [Act.put, layA, layB, layC]))
     (refine ps 25 hS ?_; (try simp only [Act.put, layA, layB, layC]))
     (refine ps 26 hS ?_; (try simp only [Act.put, layA, layB, layC]))
     (refine ps 27 hS ?_; (try simp only [Act.put, layA, layB, layC]))
     (refine tk 28 hS ?_; (try simp only [Act.put, layA, layB, layC]))
     (refine tk 29 hS ?_; (try simp only [Act.put, layA, layB, layC]))
     clear hS
     refine wpAnyH_done (by kernel_rfl) ?_ _
     go_wp2
     go_ret
     exact ⟨ret_bool (by rw [HE.out, k1, k2, k3, k4]; simp), by repeat (with_reducible (first | assumption | exact Below.refl _ _ | refine Below.alloc ?_ (by first | omega | (simp; done) | (simp; omega)) _ | refine Below.setCell ?_ (by first | omega | (simp; done) | (simp; omega)) _ | refine Below.drew ?_ | refine below_drewN ?_ _))⟩
    | true =>
     cases k5 : labelsOk gL2 (2 * ((countG cL0 4 : Nat) : Int)) with
     | false =>
      go_enter Try.func58, Try.ntmps58
      go_wp2_with fail
      refine wp_region_held_drew (S := fun W => W.cell? ⟨w.heap.size, 0, none⟩ = some ((.slice cA0 cn0 cc0)) ∧ W.cell? ⟨w.heap.size, 1, none⟩ = some ((.slice cA1 cn1 cc1)) ∧ W.cell? ⟨w.heap.size + 1, 0, none⟩ = some (.int .i64 gI0) ∧ W.cell? ⟨w.heap.size + 1, 1, none⟩ = some ((.slice gA1 gn1 gc1)) ∧ W.cell? ⟨w.heap.size + 1, 2, none⟩ = some ((.slice gA2 gn2 gc2))) (by kernel_rfl) ⟨((Box.new (g := w.heap.size) _ #[(.slice cA0 cn0 cc0), (.slice cA1 cn1 cc1)] 27 (by simp)).alloc _).drew.two.1, ((Box.new (g := w.heap.size) _ #[(.slice cA0 cn0 cc0), (.slice cA1 cn1 cc1)] 27 (by simp)).alloc _).drew.two.2.1, (Box.new (g := w.heap.size + 1) _ #[.int .i64 gI0, (.slice gA1 gn1 gc1), (.slice gA2 gn2 gc2)] 33 (by simp)).drew.three.1, (Box.new (g := w.heap.size + 1) _ #[.int .i64 gI0, (.slice gA1 gn1 gc1), (.slice gA2 gn2 gc2)] 33 (by simp)).drew.three.2.1, (Box.new (g := w.heap.size + 1) _ #[.int .i64 gI0, (.slice gA1 gn1 gc1), (.slice gA2 gn2 gc2)] 33 (by simp)).drew.three.2.2.1⟩ (fun hS => ?_)
      (refine tk 0 hS ?_; (try simp only [Act.put, layA, layB, layC]))
      refine on 1 ?_
      refine callH (by go_simp; (first | done | with_reducible rfl | exact ⟨rfl, rfl⟩)) ?_
      go_at_call 93
      refine (sCircuitOk_L (RdL.b cH) cL0n cL1n).mono ?_
      rintro e w1 ⟨rfl, b1⟩
      clear hS
      have z1 := Below.size b1
      (try simp only [World.size_alloc, World.size_setCell, size_drew] at z1)
      have B1 : Below w.heap.size w w1 := Below.t b1
      have xc_ : Box w1 (w.heap.size) #[(.slice cA0 cn0 cc0), (.slice cA1 cn1 cc1)] 27 := (Box.b ((Box.new (g := w.heap.size) _ #[(.slice cA0 cn0 cc0), (.slice cA1 cn1 cc1)] 27 (by simp)).alloc _).drew b1)
      have xc := xc_; clear xc_
      have xg_ : Box w1 (w.heap.size + 1) #[.int .i64 gI0, (.slice gA1 gn1 gc1), (.slice gA2 gn2 gc2)] 33 := (Box.b (Box.new (g := w.heap.size + 1) _ #[.int .i64 gI0, (.slice gA1 gn1 gc1), (.slice gA2 gn2 gc2)] 33 (by simp)).drew b1)
      have xg := xg_; clear xg_
      refine ⟨.bool true, by rw [k1], ⟨xc.two.1, xc.two.2.1, xg.three.1, xg.three.2.1, xg.three.2.2.1⟩, fun hS => ?_⟩
      (try simp only [Act.put, layA, layB, layC])
      (refine tk 2 hS ?_; (try simp only [Act.put, layA, layB, layC]))
      (refine tk 3 hS ?_; (try simp only [Act.put, layA, layB, layC]))
      (refine tk 4 hS ?_; (try simp only [Act.put, layA, layB, layC]))
      refine on 5 ?_
      refine callH (by go_simp; (first | done | with_reducible rfl | exact ⟨rfl, rfl⟩)) ?_
      go_at_call 95
      refine (sIsLabel_any _ _).mono ?_
      rintro e w_ ⟨rfl, rfl⟩
      refine ⟨.bool true, by rw [k2], hS, fun hS => ?_⟩
      (try simp only [Act.put, layA, layB, layC])
      (refine tk 6 hS ?_; (try simp only [Act.put, layA, layB, layC]))
      (refine tk 7 hS ?_; (try simp only [Act.put, layA, layB, layC]))
      (refine tk 8 hS ?_; (try simp only [Act.put, layA, layB, layC]))
      (refine tk 9 hS ?_; (try simp only [Act.put, layA, layB, layC]))
      (refine tk 10 hS ?_; (try simp only [Act.put, layA, layB, layC]))
      (refine tk 11 hS ?_; (try simp only [Act.put, layA, layB, layC]))
      (refine tk 12 hS ?_; (try simp only [Act.put, layA, layB, layC]))
      (refine tk 13 hS ?_; (try simp only [Act.put, layA, layB, layC]))
      (refine tk 14 hS ?_; (try simp only [Act.put, layA, layB, layC]))
      (refine tk 15 hS ?_; (try simp only [Act.put, layA, layB, layC]))
      (refine tk 16 hS ?_; (try simp only [Act.put, layA, layB, layC]))
      (refine tk 17 hS ?_; (try simp only [Act.put, layA, layB, layC]))
      (refine tk 18 hS ?_; (try simp only [Act.put, layA, layB, layC]))
      refine on 19 ?_
      refine callH (by go_simp; (first | done | with_reducible rfl | exact ⟨rfl, rfl⟩)) ?_
      go_at_call 113
      refine (l18Labels_any _ _ _ _ _ _ gL1i.b (by omega)).mono ?_
      rintro e w_ ⟨rfl, rfl⟩
      refine ⟨.bool true, by rw [k4], hS, fun hS => ?_⟩
      (try simp only [Act.put, layA, layB, layC])
      (refine tk 20 hS ?_; (try simp only [Act.put, layA, layB, layC]))
      (refine tk 21 hS ?_; (try simp only [Act.put, layA, layB, layC]))
      (refine tk 22 hS ?_; (try simp only [Act.put, layA, layB, layC]))
      (refine tk 23 hS ?_; (try simp only [Act.put, layA, layB, layC]))
      (refine tk 24 hS ?_; (try simp only [Act.put, layA, layB, layC]))
      refine on 25 ?_
      refine callH (by go_simp; (first | done | with_reducible rfl | exact ⟨rfl, rfl⟩)) ?_
      go_at_call 67
      refine (sCountGates_L (RdL.b cH) cL0n cL1n 4).mono ?_
      rintro e w2 ⟨rfl, b2⟩
      clear hS
      have z2 := Below.size b2
      (try simp only [World.size_alloc, World.size_setCell, size_drew] at z2)
      have B2 : Below w.heap.size w w2 := Below.t b2
      have xc_ : Box w2 (w.heap.size) #[(.slice cA0 cn0 cc0), (.slice cA1 cn1 cc1)] 27 := (Box.b xc b2)
      clear xc; have xc := xc_; clear xc_
      have xg_ : Box w2 (w.heap.size + 1) #[.int .i64 gI0, (.slice gA1 gn1 gc1), (.slice gA2 gn2 gc2)] 33 := (Box.b xg b2)
      clear xg; have xg := xg_; clear xg_
      refine ⟨_, rfl, ⟨xc.two.1, xc.two.2.1, xg.three.1, xg.three.2.1, xg.three.2.2.1⟩, fun hS => ?_⟩
      (try simp only [Act.put, layA, layB, layC])
      (refine tk 26 hS ?_; (try simp only [Act.put, layA, layB, layC]))
      refine on 27 ?_
      refine callH (by go_simp; (first | done | with_reducible rfl | exact ⟨rfl, rfl⟩)) ?_
      go_at_call 113
      refine (l18Labels_any _ _ _ _ _ _ gL2i.b (by omega)).mono ?_
      rintro e w_ ⟨rfl, rfl⟩
      refine ⟨.bool false, by rw [k5], hS, fun hS => ?_⟩
      (try simp only [Act.put, layA, layB, layC])
      (refine tk 28 hS ?_; (try simp only [Act.put, layA, layB, layC]))
      (refine tk 29 hS ?_; (try simp only [Act.put, layA, layB, layC]))
      clear hS
      refine wpAnyH_done (by kernel_rfl) ?_ _
      go_wp2
      go_ret
      exact ⟨ret_bool (by rw [HE.out, k1, k2, k3, k4, k5]; simp), by repeat (with_reducible (first | assumption | exact Below.refl _ _ | refine Below.alloc ?_ (by first | omega | (simp; done) | (simp; omega)) _ | refine Below.setCell ?_ (by first | omega | (simp; done) | (simp; omega)) _ | refine Below.drew ?_ | refine below_drewN ?_ _))⟩
     | true =>
      go_enter Try.func58, Try.ntmps58
      go_wp2_with fail
      refine wp_region_held_drew (S := fun W => W.cell? ⟨w.heap.size, 0, none⟩ = some ((.slice cA0 cn0 cc0)) ∧ W.cell? ⟨w.heap.size, 1, none⟩ = some ((.slice cA1 cn1 cc1)) ∧ W.cell? ⟨w.heap.size + 1, 0, none⟩ = some (.int .i64 gI0) ∧ W.cell? ⟨w.heap.size + 1, 1, none⟩ = some ((.slice gA1 gn1 gc1)) ∧ W.cell? ⟨w.heap.size + 1, 2, none⟩ = some ((.slice gA2 gn2 gc2))) (by kernel_rfl) ⟨((Box.new (g := w.heap.size) _ #[(.slice cA0 cn0 cc0), (.slice cA1 cn1 cc1)] 27 (by simp)).alloc _).drew.two.1, ((Box.new (g := w.heap.size) _ #[(.slice cA0 cn0 cc0), (.slice cA1 cn1 cc1)] 27 (by simp)).alloc _).drew.two.2.1, (Box.new (g := w.heap.size + 1) _ #[.int .i64 gI0, (.slice gA1 gn1 gc1), (.slice gA2 gn2 gc2)] 33 (by simp)).drew.three.1, (Box.new (g := w.heap.size + 1) _ #[.int .i64 gI0, (.slice gA1 gn1 gc1), (.slice gA2 gn2 gc2)] 33 (by simp)).drew.three.2.1, (Box.new (g := w.heap.size + 1) _ #[.int .i64 gI0, (.slice gA1 gn1 gc1), (.slice gA2 gn2 gc2)] 33 (by simp)).drew.three.2.2.1⟩ (fun hS => ?_)
      (refine tk 0 hS ?_; (try simp only [Act.put, layA, layB, layC]))
      refine on 1 ?_
      refine callH (by go_simp; (first | done | with_reducible rfl | exact ⟨rfl, rfl⟩)) ?_
      go_at_call 93
      refine (sCircuitOk_L (RdL.b cH) cL0n cL1n).mono ?_
      rintro e w1 ⟨rfl, b1⟩
      clear hS
      have z1 := Below.size b1
      (try simp only [World.size_alloc, World.size_setCell, size_drew] at z1)
      have B1 : Below w.heap.size w w1 := Below.t b1
      have xc_ : Box w1 (w.heap.size) #[(.slice cA0 cn0 cc0), (.slice cA1 cn1 cc1)] 27 := (Box.b ((Box.new (g := w.heap.size) _ #[(.slice cA0 cn0 cc0), (.slice cA1 cn1 cc1)] 27 (by simp)).alloc _).drew b1)
      have xc := xc_; clear xc_
      have xg_ : Box w1 (w.heap.size + 1) #[.int .i64 gI0, (.slice gA1 gn1 gc1), (.slice gA2 gn2 gc2)] 33 := (Box.b (Box.new (g := w.heap.size + 1) _ #[.int .i64 gI0, (.slice gA1 gn1 gc1), (.slice gA2 gn2 gc2)] 33 (by simp)).drew b1)
      have xg := xg_; clear xg_
      refine ⟨.bool true, by rw [k1], ⟨xc.two.1, xc.two.2.1, xg.three.1, xg.three.2.1, xg.three.2.2.1⟩, fun hS => ?_⟩
      (try simp only [Act.put, layA, layB, layC])
      (refine tk 2 hS ?_; (try simp only [Act.put, layA, layB, layC]))
      (refine tk 3 hS ?_; (try simp only [Act.put, layA, layB, layC]))
      (refine tk 4 hS ?_; (try simp only [Act.put, layA, layB, layC]))
      refine on 5 ?_
      refine callH (by go_simp; (first | done | with_reducible rfl | exact ⟨rfl, rfl⟩)) ?_
      go_at_call 95
      refine (sIsLabel_any _ _).mono ?_
      rintro e w_ ⟨rfl, rfl⟩
      refine ⟨.bool true, by rw [k2], hS, fun hS => ?_⟩
      (try simp only [Act.put, layA, layB, layC])
      (refine tk 6 hS ?_; (try simp only [Act.put, layA, layB, layC]))
      (refine tk 7 hS ?_; (try simp only [Act.put, layA, layB, layC]))
      (refine tk 8 hS ?_; (try simp only [Act.put, layA, layB, layC]))
      (refine tk 9 hS ?_; (try simp only [Act.put, layA, layB, layC]))
      (refine tk 10 hS ?_; (try simp only [Act.put, layA, layB, layC]))
      (refine tk 11 hS ?_; (try simp only [Act.put, layA, layB, layC]))
      (refine tk 12 hS ?_; (try simp only [Act.put, layA, layB, layC]))
      (refine tk 13 hS ?_; (try simp only [Act.put, layA, layB, layC]))
      (refine tk 14 hS ?_; (try simp only [Act.put, layA, layB, layC]))
      (refine tk 15 hS ?_; (try simp only [Act.put, layA, layB, layC]))
      (refine tk 16 hS ?_; (try simp only [Act.put, layA, layB, layC]))
      (refine tk 17 hS ?_; (try simp only [Act.put, layA, layB, layC]))
      (refine tk 18 hS ?_; (try simp only [Act.put, layA, layB, layC]))
      refine on 19 ?_
      refine callH (by go_simp; (first | done | with_reducible rfl | exact ⟨rfl, rfl⟩)) ?_
      go_at_call 113
      refine (l18Labels_any _ _ _ _ _ _ gL1i.b (by omega)).mono ?_
      rintro e w_ ⟨rfl, rfl⟩
      refine ⟨.bool true, by rw [k4], hS, fun hS => ?_⟩
      (try simp only [Act.put, layA, layB, layC])
      (refine tk 20 hS ?_; (try simp only [Act.put, layA, layB, layC]))
      (refine tk 21 hS ?_; (try simp only [Act.put, layA, layB, layC]))
      (refine tk 22 hS ?_; (try simp only [Act.put, layA, layB, layC]))
      (refine tk 23 hS ?_; (try simp only [Act.put, layA, layB, layC]))
      (refine tk 24 hS ?_; (try simp only [Act.put, layA, layB, layC]))
      refine on 25 ?_
      refine callH (by go_simp; (first | done | with_reducible rfl | exact ⟨rfl, rfl⟩)) ?_
      go_at_call 67
      refine (sCountGates_L (RdL.b cH) cL0n cL1n 4).mono ?_
      rintro e w2 ⟨rfl, b2⟩
      clear hS
      have z2 := Below.size b2
      (try simp only [World.size_alloc, World.size_setCell, size_drew] at z2)
      have B2 : Below w.heap.size w w2 := Below.t b2
      have xc_ : Box w2 (w.heap.size) #[(.slice cA0 cn0 cc0), (.slice cA1 cn1 cc1)] 27 := (Box.b xc b2)
      clear xc; have xc := xc_; clear xc_
      have xg_ : Box w2 (w.heap.size + 1) #[.int .i64 gI0, (.slice gA1 gn1 gc1), (.slice gA2 gn2 gc2)] 33 := (Box.b xg b2)
      clear xg; have xg := xg_; clear xg_
      refine ⟨_, rfl, ⟨xc.two.1, xc.two.2.1, xg.three.1, xg.three.2.1, xg.three.2.2.1⟩, fun hS => ?_⟩
      (try simp only [Act.put, layA, layB, layC])
      (refine tk 26 hS ?_; (try simp only [Act.put, layA, layB, layC]))
      refine on 27 ?_
      refine callH (by go_simp; (first | done | with_reducible rfl | exact ⟨rfl, rfl⟩)) ?_
      go_at_call 113
      refine (l18Labels_any _ _ _ _ _ _ gL2i.b (by omega)).mono ?_
      rintro e w_ ⟨rfl, rfl⟩
      refine ⟨.bool true, by rw [k5], hS, fun hS => ?_⟩
      (try simp only [Act.put, layA, layB, layC])
      (refine tk 28 hS ?_; (try simp only [Act.put, layA, layB, layC]))
      (refine tk 29 hS ?_; (try simp only [Act.put, layA, layB, layC]))
      clear hS
      refine wpAnyH_done (by kernel_rfl) ?_ _
      go_wp2
      go_ret
      exact ⟨ret_bool (by rw [HE.out, k1, k2, k3, k4, k5]; simp), by repeat (with_reducible (first | assumption | exact Below.refl _ _ | refine Below.alloc ?_ (by first | omega | (simp; done) | (simp; omega)) _ | refine Below.setCell ?_ (by first | omega | (simp; done) | (simp; omega)) _ | refine Below.drew ?_ | refine below_drewN ?_ _))⟩
set_option maxRecDepth 100000 in
set_option maxHeartbeats 2000000 in
theorem iPublicOk_L {cA0 : Option Addr} {cn0 cc0 : Nat} {cL0 : List (Int × Int × Int)} {cA1 : Option Addr} {cn1 cc1 : Nat} {cL1 : List Int} {pA0 : Option Addr} {pn0 pc0 : Nat} {pL0 : List Int} {pA1 : Option Addr} {pn1 pc1 : Nat} {pL1 : List Int} {pA2 : Option Addr} {pn2 pc2 : Nat} {pL2 : List Int} {w : World} (cH : RdL w [((.slice cA0 cn0 cc0), .gates cL0), ((.slice cA1 cn1 cc1), .ints cL1)]) (cL0n : cL0.length ≤ 1048576) (cL1n : cL1.length ≤ 1048576) (pH : RdL w [((.slice pA0 pn0 pc0), .ints pL0), ((.slice pA1 pn1 pc1), .ints pL1), ((.slice pA2 pn2 pc2), .ints pL2)]) (pL0n : pL0.length ≤ 1048576) (pL1n : pL1.length ≤ 1048576) (pL2n : pL2.length ≤ 1048576) :
  Calls Try.prog 31 #[.agg #[(.slice cA0 cn0 cc0), (.slice cA1 cn1 cc1)], .agg #[(.slice pA0 pn0 pc0), (.slice pA1 pn1 pc1), (.slice pA2 pn2 pc2)]] w fun e w' => e = .returned (.bool (pbOk cL0 cL1 pL0 pL1 pL2)) ∧ Below w.heap.size w w' := by
 have cL0g : Gates w cA0 cn0 cL0 := RdG.toG (cH ((.slice cA0 cn0 cc0), .gates cL0) (by simp))
 have cL0l := Lib.hid cL0g.1
 have cL0m : cn0 ≤ 1048576 := by rw [← cL0l.out]; exact cL0n
 have cL1i : Ints w cA1 cn1 cL1 := Rd.toInts (cH ((.slice cA1 cn1 cc1), .ints cL1) (by simp))
 have cL1l := Lib.hid cL1i.len
 have cL1m : cn1 ≤ 1048576 := by rw [← cL1l.out]; exact cL1n
 have pL0i : Ints w pA0 pn0 pL0 := Rd.toInts (pH ((.slice pA0 pn0 pc0), .ints pL0) (by simp))
 have pL0l := Lib.hid pL0i.len
 have pL0m : pn0 ≤ 1048576 := by rw [← pL0l.out]; exact pL0n
 have pL1i : Ints w pA1 pn1 pL1 := Rd.toInts (pH ((.slice pA1 pn1 pc1), .ints pL1) (by simp))
 have pL1l := Lib.hid pL1i.len
 have pL1m : pn1 ≤ 1048576 := by rw [← pL1l.out]; exact pL1n
 have pL2i : Ints w pA2 pn2 pL2 := Rd.toInts (pH ((.slice pA2 pn2 pc2), .ints pL2) (by simp))
 have pL2l := Lib.hid pL2i.len
 have pL2m : pn2 ≤ 1048576 := by rw [← pL2l.out]; exact pL2n
 have HE := Lib.hid (show pbOk cL0 cL1 pL0 pL1 pL2 = (circOk cL0 cL1 && allLab pL0 && allLab pL1 && allBit pL2 && ((pn0 : Int) == 2 * ((countG cL0 4 : Nat) : Int)) && ((pn1 : Int) == ((countG cL0 2 : Nat) : Int)) && ((pn2 : Int) == (cn1 : Int))) by simp only [pbOk, labelsOk, bitsOk, cL1l.out, pL0l.out, pL1l.out, pL2l.out]; ac_rfl)
 have hc4 : countG cL0 4 ≤ 1048576 := Nat.le_trans (cntG_le _ _ _) cL0n
 have hw1 : IntKind.i64.wrap (2 * ((countG cL0 4 : Nat) : Int)) = 2 * ((countG cL0 4 : Nat) : Int) := by (rw [IntKind.wrap_i64]; (first | omega | (unfold wrap64; omega)))
 cases k1 : circOk cL0 cL1 with
 | false =>
  go_enter Try.func31, Try.ntmps31
  go_wp2_with fail
  refine wp_region_held_drew (S := fun W => W.cell? ⟨w.heap.size, 0, none⟩ = some ((.slice cA0 cn0 cc0)) ∧ W.cell? ⟨w.heap.size, 1, none⟩ = some ((.slice cA1 cn1 cc1)) ∧ W.cell? ⟨w.heap.size + 1, 0, none⟩ = some ((.slice pA0 pn0 pc0)) ∧ W.cell? ⟨w.heap.size + 1, 1, none⟩ = some ((.slice pA1 pn1 pc1)) ∧ W.cell? ⟨w.heap.size + 1, 2, none⟩ = some ((.slice pA2 pn2 pc2))) (by kernel_rfl) ⟨((Box.new (g := w.heap.size) _ #[(.slice cA0 cn0 cc0), (.slice cA1 cn1 cc1)] 27 (by simp)).alloc _).drew.two.1, ((Box.new (g := w.heap.size) _ #[(.slice cA0 cn0 cc0), (.slice cA1 cn1 cc1)] 27 (by simp)).alloc _).drew.two.2.1, (Box.new (g := w.heap.size + 1) _ #[(.slice pA0 pn0 pc0), (.slice pA1 pn1 pc1), (.slice pA2 pn2 pc2)] 37 (by simp)).drew.three.1, (Box.new (g := w.heap.size + 1) _ #[(.slice pA0 pn0 pc0), (.slice pA1 pn1 pc1), (.slice pA2 pn2 pc2)] 37 (by simp)).drew.three.2.1, (Box.new (g := w.heap.size + 1) _ #[(.slice pA0 pn0 pc0), (.slice pA1 pn1 pc1), (.slice pA2 pn2 pc2)] 37 (by simp)).drew.three.2.2.1⟩ (fun hS => ?_)
  (refine tk 0 hS ?_; (try simp only [Act.put, layA, layB, layC]))
  refine on 1 ?_
  refine callH (by go_simp; (first | done | with_reducible rfl | exact ⟨rfl, rfl⟩)) ?_
  go_at_call 86
  refine (iCircuitOk_L (RdL.b cH) cL0n cL1n).mono ?_
  rintro e w1 ⟨rfl, b1⟩
  clear hS
  have z1 := Below.size b1
  (try simp only [World.size_alloc, World.size_setCell, size_drew] at z1)
  have B1 : Below w.heap.size w w1 := Below.t b1
  have xc_ : Box w1 (w.heap.size) #[(.slice cA0 cn0 cc0), (.slice cA1 cn1 cc1)] 27 := (Box.b ((Box.new (g := w.heap.size) _ #[(.slice cA0 cn0 cc0), (.slice cA1 cn1 cc1)] 27 (by simp)).alloc _).drew b1)
  have xc := xc_; clear xc_
  have xp_ : Box w1 (w.heap.size + 1) #[(.slice pA0 pn0 pc0), (.slice pA1 pn1 pc1), (.slice pA2 pn2 pc2)] 37 := (Box.b (Box.new (g := w.heap.size + 1) _ #[(.slice pA0 pn0 pc0), (.slice pA1 pn1 pc1), (.slice pA2 pn2 pc2)] 37 (by simp)).drew b1)
  have xp := xp_; clear xp_
  refine ⟨.bool false, by rw [k1], ⟨xc.two.1, xc.two.2.1, xp.three.1, xp.three.2.1, xp.three.2.2.1⟩, fun hS => ?_⟩
  (try simp only [Act.put, layA, layB, layC])
  (refine tk 2 hS ?_; (try simp only [Act.put, layA, layB, layC]))
  (refine ps 3 hS ?_; (try simp only [Act.put, layA, layB, layC]))
  (refine ps 4 hS ?_; (try simp only [Act.put, layA, layB, layC]))
  (refine ps 5 hS ?_; (try simp only [Act.put, layA, layB, layC]))
  (refine tk 6 hS ?_; (try simp only [Act.put, layA, layB, layC]))
  (refine tk 7 hS ?_; (try simp only [Act.put, layA, layB, layC]))
  (refine ps 8 hS ?_; (try simp only [Act.put, layA, layB, layC]))
  (refine ps 9 hS ?_; (try simp only [Act.put, layA, layB, layC]))
  (refine ps 10 hS ?_; (try simp only [Act.put, layA, layB, layC]))
  (refine tk 11 hS ?_; (try simp only [Act.put, layA, layB, layC]))
  (refine tk 12 hS ?_; (try simp only [Act.put, layA, layB, layC]))
  (refine ps 13 hS ?_; (try simp only [Act.put, layA, layB, layC]))
  (refine ps 14 hS ?_; (try simp only [Act.put, layA, layB, layC]))
  (refine ps 15 hS ?_; (try simp only [Act.put, layA, layB, layC]))
  (refine tk 16 hS ?_; (try simp only [Act.put, layA, layB, layC]))
  (refine tk 17 hS ?_; (try simp only [Act.put, layA, layB, layC]))
  (refine ps 18 hS ?_; (try simp only [Act.put, layA, layB, layC]))
  (refine ps 19 hS ?_; (try simp only [Act.put, layA, layB, layC]))
  (refine ps 20 hS ?_; (try simp only [Act.put, layA, layB, layC]))
  (refine ps 21 hS ?_; (try simp only [Act.put, layA, layB, layC]))
  (refine ps 22 hS ?_; (try simp only [Act.put, layA, layB, layC]))
  (refine ps 23 hS ?_; (try simp only [Act.put, layA, layB, layC]))
  (refine ps 24 hS ?_; (try simp only [Act.put, layA, layB, layC]))
  (refine tk 25 hS ?_; (try simp only [Act.put, layA, layB, layC]))
  (refine tk 26 hS ?_; (try simp only [Act.put, layA, layB, layC]))
  (refine ps 27 hS ?_; (try simp only [Act.put, layA, layB, layC]))
  (refine ps 28 hS ?_; (try simp only [Act.put, layA, layB, layC]))
  (refine ps 29 hS ?_; (try simp only [Act.put, layA, layB, layC]))
  (refine ps 30 hS ?_; (try simp only [Act.put, layA, layB, layC]))
  (refine ps 31 hS ?_; (try simp only [Act.put, layA, layB, layC]))
  (refine ps 32 hS ?_; (try simp only [Act.put, layA, layB, layC]))
  (refine tk 33 hS ?_; (try simp only [Act.put, layA, layB, layC]))
  (refine tk 34 hS ?_; (try simp only [Act.put, layA, layB, layC]))
  (refine ps 35 hS ?_; (try simp only [Act.put, layA, layB, layC]))
  (refine ps 36 hS ?_; (try simp only [Act.put, layA, layB, layC]))
  (refine ps 37 hS ?_; (try simp only [Act.put, layA, layB, layC]))
  (refine ps 38 hS ?_; (try simp only [Act.put, layA, layB, layC]))
  (refine ps 39 hS ?_; (try simp only [Act.put, layA, layB, layC]))
  (refine ps 40 hS ?_; (try simp only [Act.put, layA, layB, layC]))
  (refine ps 41 hS ?_; (try simp only [Act.put, layA, layB, layC]))
  (refine tk 42 hS ?_; (try simp only [Act.put, layA, layB, layC]))
  (refine tk 43 hS ?_; (try simp only [Act.put, layA, layB, layC]))
  clear hS
  refine wpAnyH_done (by kernel_rfl) ?_ _
  go_wp2
  go_ret
  exact ⟨ret_bool (by rw [HE.out, k1]; simp), by repeat (with_reducible (first | assumption | exact Below.refl _ _ | refine Below.alloc ?_ (by first | omega | (simp; done) | (simp; omega)) _ | refine Below.setCell ?_ (by first | omega | (simp; done) | (simp; omega)) _ | refine Below.drew ?_ | refine below_drewN ?_ _))⟩
 | true =>
  cases k2 : allLab pL0 with
  | false =>
   go_enter Try.func31, Try.ntmps31
   go_wp2_with fail
   refine wp_region_held_drew (S := fun W => W.cell? ⟨w.heap.size, 0, none⟩ = some ((.slice cA0 cn0 cc0)) ∧ W.cell? ⟨w.heap.size, 1, none⟩ = some ((.slice cA1 cn1 cc1)) ∧ W.cell? ⟨w.heap.size + 1, 0, none⟩ = some ((.slice pA0 pn0 pc0)) ∧ W.cell? ⟨w.heap.size + 1, 1, none⟩ = some ((.slice pA1 pn1 pc1)) ∧ W.cell? ⟨w.heap.size + 1, 2, none⟩ = some ((.slice pA2 pn2 pc2))) (by kernel_rfl) ⟨((Box.new (g := w.heap.size) _ #[(.slice cA0 cn0 cc0), (.slice cA1 cn1 cc1)] 27 (by simp)).alloc _).drew.two.1, ((Box.new (g := w.heap.size) _ #[(.slice cA0 cn0 cc0), (.slice cA1 cn1 cc1)] 27 (by simp)).alloc _).drew.two.2.1, (Box.new (g := w.heap.size + 1) _ #[(.slice pA0 pn0 pc0), (.slice pA1 pn1 pc1), (.slice pA2 pn2 pc2)] 37 (by simp)).drew.three.1, (Box.new (g := w.heap.size + 1) _ #[(.slice pA0 pn0 pc0), (.slice pA1 pn1 pc1), (.slice pA2 pn2 pc2)] 37 (by simp)).drew.three.2.1, (Box.new (g := w.heap.size + 1) _ #[(.slice pA0 pn0 pc0), (.slice pA1 pn1 pc1), (.slice pA2 pn2 pc2)] 37 (by simp)).drew.three.2.2.1⟩ (fun hS => ?_)
   (refine tk 0 hS ?_; (try simp only [Act.put, layA, layB, layC]))
   refine on 1 ?_
   refine callH (by go_simp; (first | done | with_reducible rfl | exact ⟨rfl, rfl⟩)) ?_
   go_at_call 86
   refine (iCircuitOk_L (RdL.b cH) cL0n cL1n).mono ?_
   rintro e w1 ⟨rfl, b1⟩
   clear hS
   have z1 := Below.size b1
   (try simp only [World.size_alloc, World.size_setCell, size_drew] at z1)
   have B1 : Below w.heap.size w w1 := Below.t b1
   have xc_ : Box w1 (w.heap.size) #[(.slice cA0 cn0 cc0), (.slice cA1 cn1 cc1)] 27 := (Box.b ((Box.new (g := w.heap.size) _ #[(.slice cA0 cn0 cc0), (.slice cA1 cn1 cc1)] 27 (by simp)).alloc _).drew b1)
   have xc := xc_; clear xc_
   have xp_ : Box w1 (w.heap.size + 1) #[(.slice pA0 pn0 pc0), (.slice pA1 pn1 pc1), (.slice pA2 pn2 pc2)] 37 := (Box.b (Box.new (g := w.heap.size + 1) _ #[(.slice pA0 pn0 pc0), (.slice pA1 pn1 pc1), (.slice pA2 pn2 pc2)] 37 (by simp)).drew b1)
   have xp := xp_; clear xp_
   refine ⟨.bool true, by rw [k1], ⟨xc.two.1, xc.two.2.1, xp.three.1, xp.three.2.1, xp.three.2.2.1⟩, fun hS => ?_⟩
   (try simp only [Act.put, layA, layB, layC])
   (refine tk 2 hS ?_; (try simp only [Act.put, layA, layB, layC]))
   (refine tk 3 hS ?_; (try simp only [Act.put, layA, layB, layC]))
   (refine tk 4 hS ?_; (try simp only [Act.put, layA, layB, layC]))
   refine on 5 ?_
   refine callH (by go_simp; (first | done | with_reducible rfl | exact ⟨rfl, rfl⟩)) ?_
   go_at_call 91
   refine (areLabels_any _ _ _ _ _ pL0i.b (by omega)).mono ?_
   rintro e w_ ⟨rfl, rfl⟩
   refine ⟨.bool false, by rw [k2], hS, fun hS => ?_⟩
   (try simp only [Act.put, layA, layB, layC])
   (refine tk 6 hS ?_; (try simp only [Act.put, layA, layB, layC]))
   (refine tk 7 hS ?_; (try simp only [Act.put, layA, layB, layC]))
   (refine ps 8 hS ?_; (try simp only [Act.put, layA, layB, layC]))
   (refine ps 9 hS ?_; (try simp only [Act.put, layA, layB, layC]))
   (refine ps 10 hS ?_; (try simp only [Act.put, layA, layB, layC]))
   (refine tk 11 hS ?_; (try simp only [Act.put, layA, layB, layC]))
   (refine tk 12 hS ?_; (try simp only [Act.put, layA, layB, layC]))
   (refine ps 13 hS ?_; (try simp only [Act.put, layA, layB, layC]))
   (refine ps 14 hS ?_; (try simp only [Act.put, layA, layB, layC]))
   (refine ps 15 hS ?_; (try simp only [Act.put, layA, layB, layC]))
   (refine tk 16 hS ?_; (try simp only [Act.put, layA, layB, layC]))
   (refine tk 17 hS ?_; (try simp only [Act.put, layA, layB, layC]))
   (refine ps 18 hS ?_; (try simp only [Act.put, layA, layB, layC]))
   (refine ps 19 hS ?_; (try simp only [Act.put, layA, layB, layC]))
   (refine ps 20 hS ?_; (try simp only [Act.put, layA, layB, layC]))
   (refine ps 21 hS ?_; (try simp only [Act.put, layA, layB, layC]))
   (refine ps 22 hS ?_; (try simp only [Act.put, layA, layB, layC]))
   (refine ps 23 hS ?_; (try simp only [Act.put, layA, layB, layC]))
   (refine ps 24 hS ?_; (try simp only [Act.put, layA, layB, layC]))
   (refine tk 25 hS ?_; (try simp only [Act.put, layA, layB, layC]))
   (refine tk 26 hS ?_; (try simp only [Act.put, layA, layB, layC]))
   (refine ps 27 hS ?_; (try simp only [Act.put, layA, layB, layC]))
   (refine ps 28 hS ?_; (try simp only [Act.put, layA, layB, layC]))
   (refine ps 29 hS ?_; (try simp only [Act.put, layA, layB, layC]))
   (refine ps 30 hS ?_; (try simp only [Act.put, layA, layB, layC]))
   (refine ps 31 hS ?_; (try simp only [Act.put, layA, layB, layC]))
   (refine ps 32 hS ?_; (try simp only [Act.put, layA, layB, layC]))
   (refine tk 33 hS ?_; (try simp only [Act.put, layA, layB, layC]))
   (refine tk 34 hS ?_; (try simp only [Act.put, layA, layB, layC]))
   (refine ps 35 hS ?_; (try simp only [Act.put, layA, layB, layC]))
   (refine ps 36 hS ?_; (try simp only [Act.put, layA, layB, layC]))
   (refine ps 37 hS ?_; (try simp only [Act.put, layA, layB, layC]))
   (refine ps 38 hS ?_; (try simp only [Act.put, layA, layB, layC]))
   (refine ps 39 hS ?_; (try simp only [Act.put, layA, layB, layC]))
   (refine ps 40 hS ?_; (try simp only [Act.put, layA, layB, layC]))
   (refine ps 41 hS ?_; (try simp only [Act.put, layA, layB, layC]))
   (refine tk 42 hS ?_; (try simp only [Act.put, layA, layB, layC]))
   (refine tk 43 hS ?_; (try simp only [Act.put, layA, layB, layC]))
   clear hS
   refine wpAnyH_done (by kernel_rfl) ?_ _
   go_wp2
   go_ret
   exact ⟨ret_bool (by rw [HE.out, k1, k2]; simp), by repeat (with_reducible (first | assumption | exact Below.refl _ _ | refine Below.alloc ?_ (by first | omega | (simp; done) | (simp; omega)) _ | refine Below.setCell ?_ (by first | omega | (simp; done) | (simp; omega)) _ | refine Below.drew ?_ | refine below_drewN ?_ _))⟩
  | true =>
   cases k3 : allLab pL1 with
   | false =>
    go_enter Try.func31, Try.ntmps31
    go_wp2_with fail
    refine wp_region_held_drew (S := fun W => W.cell? ⟨w.heap.size, 0, none⟩ = some ((.slice cA0 cn0 cc0)) ∧ W.cell? ⟨w.heap.size, 1, none⟩ = some ((.slice cA1 cn1 cc1)) ∧ W.cell? ⟨w.heap.size + 1, 0, none⟩ = some ((.slice pA0 pn0 pc0)) ∧ W.cell? ⟨w.heap.size + 1, 1, none⟩ = some ((.slice pA1 pn1 pc1)) ∧ W.cell? ⟨w.heap.size + 1, 2, none⟩ = some ((.slice pA2 pn2 pc2))) (by kernel_rfl) ⟨((Box.new (g := w.heap.size) _ #[(.slice cA0 cn0 cc0), (.slice cA1 cn1 cc1)] 27 (by simp)).alloc _).drew.two.1, ((Box.new (g := w.heap.size) _ #[(.slice cA0 cn0 cc0), (.slice cA1 cn1 cc1)] 27 (by simp)).alloc _).drew.two.2.1, (Box.new (g := w.heap.size + 1) _ #[(.slice pA0 pn0 pc0), (.slice pA1 pn1 pc1), (.slice pA2 pn2 pc2)] 37 (by simp)).drew.three.1, (Box.new (g := w.heap.size + 1) _ #[(.slice pA0 pn0 pc0), (.slice pA1 pn1 pc1), (.slice pA2 pn2 pc2)] 37 (by simp)).drew.three.2.1, (Box.new (g := w.heap.size + 1) _ #[(.slice pA0 pn0 pc0), (.slice pA1 pn1 pc1), (.slice pA2 pn2 pc2)] 37 (by simp)).drew.three.2.2.1⟩ (fun hS => ?_)
    (refine tk 0 hS ?_; (try simp only [Act.put, layA, layB, layC]))
    refine on 1 ?_
    refine callH (by go_simp; (first | done | with_reducible rfl | exact ⟨rfl, rfl⟩)) ?_
    go_at_call 86
    refine (iCircuitOk_L (RdL.b cH) cL0n cL1n).mono ?_
    rintro e w1 ⟨rfl, b1⟩
    clear hS
    have z1 := Below.size b1
    (try simp only [World.size_alloc, World.size_setCell, size_drew] at z1)
    have B1 : Below w.heap.size w w1 := Below.t b1
    have xc_ : Box w1 (w.heap.size) #[(.slice cA0 cn0 cc0), (.slice cA1 cn1 cc1)] 27 := (Box.b ((Box.new (g := w.heap.size) _ #[(.slice cA0 cn0 cc0), (.slice cA1 cn1 cc1)] 27 (by simp)).alloc _).drew b1)
    have xc := xc_; clear xc_
    have xp_ : Box w1 (w.heap.size + 1) #[(.slice pA0 pn0 pc0), (.slice pA1 pn1 pc1), (.slice pA2 pn2 pc2)] 37 := (Box.b (Box.new (g := w.heap.size + 1) _ #[(.slice pA0 pn0 pc0), (.slice pA1 pn1 pc1), (.slice pA2 pn2 pc2)] 37 (by simp)).drew b1)
    have xp := xp_; clear xp_
    refine ⟨.bool true, by rw [k1], ⟨xc.two.1, xc.two.2.1, xp.three.1, xp.three.2.1, xp.three.2.2.1⟩, fun hS => ?_⟩
    (try simp only [Act.put, layA, layB, layC])
    (refine tk 2 hS ?_; (try simp only [Act.put, layA, layB, layC]))
    (refine tk 3 hS ?_; (try simp only [Act.put, layA, layB, layC]))
    (refine tk 4 hS ?_; (try simp only [Act.put, layA, layB, layC]))
    refine on 5 ?_
    refine callH (by go_simp; (first | done | with_reducible rfl | exact ⟨rfl, rfl⟩)) ?_
    go_at_call 91
    refine (areLabels_any _ _ _ _ _ pL0i.b (by omega)).mono ?_
    rintro e w_ ⟨rfl, rfl⟩
    refine ⟨.bool true, by rw [k2], hS, fun hS => ?_⟩
    (try simp only [Act.put, layA, layB, layC])
    (refine tk 6 hS ?_; (try simp only [Act.put, layA, layB, layC]))
    (refine tk 7 hS ?_; (try simp only [Act.put, layA, layB, layC]))
    (refine tk 8 hS ?_; (try simp only [Act.put, layA, layB, layC]))
    (refine tk 9 hS ?_; (try simp only [Act.put, layA, layB, layC]))
    refine on 10 ?_
    refine callH (by go_simp; (first | done | with_reducible rfl | exact ⟨rfl, rfl⟩)) ?_
    go_at_call 91
    refine (areLabels_any _ _ _ _ _ pL1i.b (by omega)).mono ?_
    rintro e w_ ⟨rfl, rfl⟩
    refine ⟨.bool false, by rw [k3], hS, fun hS => ?_⟩
    (try simp only [Act.put, layA, layB, layC])
    (refine tk 11 hS ?_; (try simp only [Act.put, layA, layB, layC]))
    (refine tk 12 hS ?_; (try simp only [Act.put, layA, layB, layC]))
    (refine ps 13 hS ?_; (try simp only [Act.put, layA, layB, layC]))
    (refine ps 14 hS ?_; (try simp only [Act.put, layA, layB, layC]))
    (refine ps 15 hS ?_; (try simp only [Act.put, layA, layB, layC]))
    (refine tk 16 hS ?_; (try simp only [Act.put, layA, layB, layC]))
    (refine tk 17 hS ?_; (try simp only [Act.put, layA, layB, layC]))
    (refine ps 18 hS ?_; (try simp only [Act.put, layA, layB, layC]))
    (refine ps 19 hS ?_; (try simp only [Act.put, layA, layB, layC]))
    (refine ps 20 hS ?_; (try simp only [Act.put, layA, layB, layC]))
    (refine ps 21 hS ?_; (try simp only [Act.put, layA, layB, layC]))
    (refine ps 22 hS ?_; (try simp only [Act.put, layA, layB, layC]))
    (refine ps 23 hS ?_; (try simp only [Act.put, layA, layB, layC]))
    (refine ps 24 hS ?_; (try simp only [Act.put, layA, layB, layC]))
    (refine tk 25 hS ?_; (try simp only [Act.put, layA, layB, layC]))
    (refine tk 26 hS ?_; (try simp only [Act.put, layA, layB, layC]))
    (refine ps 27 hS ?_; (try simp only [Act.put, layA, layB, layC]))
    (refine ps 28 hS ?_; (try simp only [Act.put, layA, layB, layC]))
    (refine ps 29 hS ?_; (try simp only [Act.put, layA, layB, layC]))
    (refine ps 30 hS ?_; (try simp only [Act.put, layA, layB, layC]))
    (refine ps 31 hS ?_; (try simp only [Act.put, layA, layB, layC]))
    (refine ps 32 hS ?_; (try simp only [Act.put, layA, layB, layC]))
    (refine tk 33 hS ?_; (try simp only [Act.put, layA, layB, layC]))
    (refine tk 34 hS ?_; (try simp only [Act.put, layA, layB, layC]))
    (refine ps 35 hS ?_; (try simp only [Act.put, layA, layB, layC]))
    (refine ps 36 hS ?_; (try simp only [Act.put, layA, layB, layC]))
    (refine ps 37 hS ?_; (try simp only [Act.put, layA, layB, layC]))
    (refine ps 38 hS ?_; (try simp only [Act.put, layA, layB, layC]))
    (refine ps 39 hS ?_; (try simp only [Act.put, layA, layB, layC]))
    (refine ps 40 hS ?_; (try simp only [Act.put, layA, layB, layC]))
    (refine ps 41 hS ?_; (try simp only [Act.put, layA, layB, layC]))
    (refine tk 42 hS ?_; (try simp only [Act.put, layA, layB, layC]))
    (refine tk 43 hS ?_; (try simp only [Act.put, layA, layB, layC]))
    clear hS
    refine wpAnyH_done (by kernel_rfl) ?_ _
    go_wp2
    go_ret
    exact ⟨ret_bool (by rw [HE.out, k1, k2, k3]; simp), by repeat (with_reducible (first | assumption | exact Below.refl _ _ | refine Below.alloc ?_ (by first | omega | (simp; done) | (simp; omega)) _ | refine Below.setCell ?_ (by first | omega | (simp; done) | (simp; omega)) _ | refine Below.drew ?_ | refine below_drewN ?_ _))⟩
   | true =>
    cases k4 : allBit pL2 with
    | false =>
     go_enter Try.func31, Try.ntmps31
     go_wp2_with fail
     refine wp_region_held_drew (S := fun W => W.cell? ⟨w.heap.size, 0, none⟩ = some ((.slice cA0 cn0 cc0)) ∧ W.cell? ⟨w.heap.size, 1, none⟩ = some ((.slice cA1 cn1 cc1)) ∧ W.cell? ⟨w.heap.size + 1, 0, none⟩ = some ((.slice pA0 pn0 pc0)) ∧ W.cell? ⟨w.heap.size + 1, 1, none⟩ = some ((.slice pA1 pn1 pc1)) ∧ W.cell? ⟨w.heap.size + 1, 2, none⟩ = some ((.slice pA2 pn2 pc2))) (by kernel_rfl) ⟨((Box.new (g := w.heap.size) _ #[(.slice cA0 cn0 cc0), (.slice cA1 cn1 cc1)] 27 (by simp)).alloc _).drew.two.1, ((Box.new (g := w.heap.size) _ #[(.slice cA0 cn0 cc0), (.slice cA1 cn1 cc1)] 27 (by simp)).alloc _).drew.two.2.1, (Box.new (g := w.heap.size + 1) _ #[(.slice pA0 pn0 pc0), (.slice pA1 pn1 pc1), (.slice pA2 pn2 pc2)] 37 (by simp)).drew.three.1, (Box.new (g := w.heap.size + 1) _ #[(.slice pA0 pn0 pc0), (.slice pA1 pn1 pc1), (.slice pA2 pn2 pc2)] 37 (by simp)).drew.three.2.1, (Box.new (g := w.heap.size + 1) _ #[(.slice pA0 pn0 pc0), (.slice pA1 pn1 pc1), (.slice pA2 pn2 pc2)] 37 (by simp)).drew.three.2.2.1⟩ (fun hS => ?_)
     (refine tk 0 hS ?_; (try simp only [Act.put, layA, layB, layC]))
     refine on 1 ?_
     refine callH (by go_simp; (first | done | with_reducible rfl | exact ⟨rfl, rfl⟩)) ?_
     go_at_call 86
     refine (iCircuitOk_L (RdL.b cH) cL0n cL1n).mono ?_
     rintro e w1 ⟨rfl, b1⟩
     clear hS
     have z1 := Below.size b1
     (try simp only [World.size_alloc, World.size_setCell, size_drew] at z1)
     have B1 : Below w.heap.size w w1 := Below.t b1
     have xc_ : Box w1 (w.heap.size) #[(.slice cA0 cn0 cc0), (.slice cA1 cn1 cc1)] 27 := (Box.b ((Box.new (g := w.heap.size) _ #[(.slice cA0 cn0 cc0), (.slice cA1 cn1 cc1)] 27 (by simp)).alloc _).drew b1)
     have xc := xc_; clear xc_
     have xp_ : Box w1 (w.heap.size + 1) #[(.slice pA0 pn0 pc0), (.slice pA1 pn1 pc1), (.slice pA2 pn2 pc2)] 37 := (Box.b (Box.new (g := w.heap.size + 1) _ #[(.slice pA0 pn0 pc0), (.slice pA1 pn1 pc1), (.slice pA2 pn2 pc2)] 37 (by simp)).drew b1)
     have xp := xp_; clear xp_
     refine ⟨.bool true, by rw [k1], ⟨xc.two.1, xc.two.2.1, xp.three.1, xp.three.2.1, xp.three.2.2.1⟩, fun hS => ?_⟩
     (try simp only [Act.put, layA, layB, layC])
     (refine tk 2 hS ?_; (try simp only [Act.put, layA, layB, layC]))
     (refine tk 3 hS ?_; (try simp only [Act.put, layA, layB, layC]))
     (refine tk 4 hS ?_; (try simp only [Act.put, layA, layB, layC]))
     refine on 5 ?_
     refine callH (by go_simp; (first | done | with_reducible rfl | exact ⟨rfl, rfl⟩)) ?_
     go_at_call 91
     refine (areLabels_any _ _ _ _ _ pL0i.b (by omega)).mono ?_
     rintro e w_ ⟨rfl, rfl⟩
     refine ⟨.bool true, by rw [k2], hS, fun hS => ?_⟩
     (try simp only [Act.put, layA, layB, layC])
     (refine tk 6 hS ?_; (try simp only [Act.put, layA, layB, layC]))
     (refine tk 7 hS ?_; (try simp only [Act.put, layA, layB, layC]))
     (refine tk 8 hS ?_; (try simp only [Act.put, layA, layB, layC]))
     (refine tk 9 hS ?_; (try simp only [Act.put, layA, layB, layC]))
     refine on 10 ?_
     refine callH (by go_simp; (first | done | with_reducible rfl | exact ⟨rfl, rfl⟩)) ?_
     go_at_call 91
     refine (areLabels_any _ _ _ _ _ pL1i.b (by omega)).mono ?_
     rintro e w_ ⟨rfl, rfl⟩
     refine ⟨.bool true, by rw [k3], hS, fun hS => ?_⟩
     (try simp only [Act.put, layA, layB, layC])
     (refine tk 11 hS ?_; (try simp only [Act.put, layA, layB, layC]))
     (refine tk 12 hS ?_; (try simp only [Act.put, layA, layB, layC]))
     (refine tk 13 hS ?_; (try simp only [Act.put, layA, layB, layC]))
     (refine tk 14 hS ?_; (try simp only [Act.put, layA, layB, layC]))
     refine on 15 ?_
     refine callH (by go_simp; (first | done | with_reducible rfl | exact ⟨rfl, rfl⟩)) ?_
     go_at_call 92
     refine (areBits_any _ _ _ _ _ pL2i.b (by omega)).mono ?_
     rintro e w_ ⟨rfl, rfl⟩
     refine ⟨.bool false, by rw [k4], hS, fun hS => ?_⟩
     (try simp only [Act.put, layA, layB, layC])
     (refine tk 16 hS ?_; (try simp only [Act.put, layA, layB, layC]))
     (refine tk 17 hS ?_; (try simp only [Act.put, layA, layB, layC]))
     (refine ps 18 hS ?_; (try simp only [Act.put, layA, layB, layC]))
     (refine ps 19 hS ?_; (try simp only [Act.put, layA, layB, layC]))
     (refine ps 20 hS ?_; (try simp only [Act.put, layA, layB, layC]))
     (refine ps 21 hS ?_; (try simp only [Act.put, layA, layB, layC]))
     (refine ps 22 hS ?_; (try simp only [Act.put, layA, layB, layC]))
     (refine ps 23 hS ?_; (try simp only [Act.put, layA, layB, layC]))
     (refine ps 24 hS ?_; (try simp only [Act.put, layA, layB, layC]))
     (refine tk 25 hS ?_; (try simp only [Act.put, layA, layB, layC]))
     (refine tk 26 hS ?_; (try simp only [Act.put, layA, layB, layC]))
     (refine ps 27 hS ?_; (try simp only [Act.put, layA, layB, layC]))
     (refine ps 28 hS ?_; (try simp only [Act.put, layA, layB, layC]))
     (refine ps 29 hS ?_; (try simp only [Act.put, layA, layB, layC]))
     (refine ps 30 hS ?_; (try simp only [Act.put, layA, layB, layC]))
     (refine ps 31 hS ?_; (try simp only [Act.put, layA, layB, layC]))
     (refine ps 32 hS ?_; (try simp only [Act.put, layA, layB, layC]))
     (refine tk 33 hS ?_; (try simp only [Act.put, layA, layB, layC]))
     (refine tk 34 hS ?_; (try simp only [Act.put, layA, layB, layC]))
     (refine ps 35 hS ?_; (try simp only [Act.put, layA, layB, layC]))
     (refine ps 36 hS ?_; (try simp only [Act.put, layA, layB, layC]))
     (refine ps 37 hS ?_; (try simp only [Act.put, layA, layB, layC]))
     (refine ps 38 hS ?_; (try simp only [Act.put, layA, layB, layC]))
     (refine ps 39 hS ?_; (try simp only [Act.put, layA, layB, layC]))
     (refine ps 40 hS ?_; (try simp only [Act.put, layA, layB, layC]))
     (refine ps 41 hS ?_; (try simp only [Act.put, layA, layB, layC]))
     (refine tk 42 hS ?_; (try simp only [Act.put, layA, layB, layC]))
     (refine tk 43 hS ?_; (try simp only [Act.put, layA, layB, layC]))
     clear hS
     refine wpAnyH_done (by kernel_rfl) ?_ _
     go_wp2
     go_ret
     exact ⟨ret_bool (by rw [HE.out, k1, k2, k3, k4]; simp), by repeat (with_reducible (first | assumption | exact Below.refl _ _ | refine Below.alloc ?_ (by first | omega | (simp; done) | (simp; omega)) _ | refine Below.setCell ?_ (by first | omega | (simp; done) | (simp; omega)) _ | refine Below.drew ?_ | refine below_drewN ?_ _))⟩
    | true =>
     cases k5 : ((pn0 : Int) == 2 * ((countG cL0 4 : Nat) : Int)) with
     | false =>
      go_enter Try.func31, Try.ntmps31
      go_wp2_with fail
      refine wp_region_held_drew (S := fun W => W.cell? ⟨w.heap.size, 0, none⟩ = some ((.slice cA0 cn0 cc0)) ∧ W.cell? ⟨w.heap.size, 1, none⟩ = some ((.slice cA1 cn1 cc1)) ∧ W.cell? ⟨w.heap.size + 1, 0, none⟩ = some ((.slice pA0 pn0 pc0)) ∧ W.cell? ⟨w.heap.size + 1, 1, none⟩ = some ((.slice pA1 pn1 pc1)) ∧ W.cell? ⟨w.heap.size + 1, 2, none⟩ = some ((.slice pA2 pn2 pc2))) (by kernel_rfl) ⟨((Box.new (g := w.heap.size) _ #[(.slice cA0 cn0 cc0), (.slice cA1 cn1 cc1)] 27 (by simp)).alloc _).drew.two.1, ((Box.new (g := w.heap.size) _ #[(.slice cA0 cn0 cc0), (.slice cA1 cn1 cc1)] 27 (by simp)).alloc _).drew.two.2.1, (Box.new (g := w.heap.size + 1) _ #[(.slice pA0 pn0 pc0), (.slice pA1 pn1 pc1), (.slice pA2 pn2 pc2)] 37 (by simp)).drew.three.1, (Box.new (g := w.heap.size + 1) _ #[(.slice pA0 pn0 pc0), (.slice pA1 pn1 pc1), (.slice pA2 pn2 pc2)] 37 (by simp)).drew.three.2.1, (Box.new (g := w.heap.size + 1) _ #[(.slice pA0 pn0 pc0), (.slice pA1 pn1 pc1), (.slice pA2 pn2 pc2)] 37 (by simp)).drew.three.2.2.1⟩ (fun hS => ?_)
      (refine tk 0 hS ?_; (try simp only [Act.put, layA, layB, layC]))
      refine on 1 ?_
      refine callH (by go_simp; (first | done | with_reducible rfl | exact ⟨rfl, rfl⟩)) ?_
      go_at_call 86
      refine (iCircuitOk_L (RdL.b cH) cL0n cL1n).mono ?_
      rintro e w1 ⟨rfl, b1⟩
      clear hS
      have z1 := Below.size b1
      (try simp only [World.size_alloc, World.size_setCell, size_drew] at z1)
      have B1 : Below w.heap.size w w1 := Below.t b1
      have xc_ : Box w1 (w.heap.size) #[(.slice cA0 cn0 cc0), (.slice cA1 cn1 cc1)] 27 := (Box.b ((Box.new (g := w.heap.size) _ #[(.slice cA0 cn0 cc0), (.slice cA1 cn1 cc1)] 27 (by simp)).alloc _).drew b1)
      have xc := xc_; clear xc_
      have xp_ : Box w1 (w.heap.size + 1) #[(.slice pA0 pn0 pc0), (.slice pA1 pn1 pc1), (.slice pA2 pn2 pc2)] 37 := (Box.b (Box.new (g := w.heap.size + 1) _ #[(.slice pA0 pn0 pc0), (.slice pA1 pn1 pc1), (.slice pA2 pn2 pc2)] 37 (by simp)).drew b1)
      have xp := xp_; clear xp_
      refine ⟨.bool true, by rw [k1], ⟨xc.two.1, xc.two.2.1, xp.three.1, xp.three.2.1, xp.three.2.2.1⟩, fun hS => ?_⟩
      (try simp only [Act.put, layA, layB, layC])
      (refine tk 2 hS ?_; (try simp only [Act.put, layA, layB, layC]))
      (refine tk 3 hS ?_; (try simp only [Act.put, layA, layB, layC]))
      (refine tk 4 hS ?_; (try simp only [Act.put, layA, layB, layC]))
      refine on 5 ?_
      refine callH (by go_simp; (first | done | with_reducible rfl | exact ⟨rfl, rfl⟩)) ?_
      go_at_call 91
      refine (areLabels_any _ _ _ _ _ pL0i.b (by omega)).mono ?_
      rintro e w_ ⟨rfl, rfl⟩
      refine ⟨.bool true, by rw [k2], hS, fun hS => ?_⟩
      (try simp only [Act.put, layA, layB, layC])
      (refine tk 6 hS ?_; (try simp only [Act.put, layA, layB, layC]))
      (refine tk 7 hS ?_; (try simp only [Act.put, layA, layB, layC]))
      (refine tk 8 hS ?_; (try simp only [Act.put, layA, layB, layC]))
      (refine tk 9 hS ?_; (try simp only [Act.put, layA, layB, layC]))
      refine on 10 ?_
      refine callH (by go_simp; (first | done | with_reducible rfl | exact ⟨rfl, rfl⟩)) ?_
      go_at_call 91
      refine (areLabels_any _ _ _ _ _ pL1i.b (by omega)).mono ?_
      rintro e w_ ⟨rfl, rfl⟩
      refine ⟨.bool true, by rw [k3], hS, fun hS => ?_⟩
      (try simp only [Act.put, layA, layB, layC])
      (refine tk 11 hS ?_; (try simp only [Act.put, layA, layB, layC]))
      (refine tk 12 hS ?_; (try simp only [Act.put, layA, layB, layC]))
      (refine tk 13 hS ?_; (try simp only [Act.put, layA, layB, layC]))
      (refine tk 14 hS ?_; (try simp only [Act.put, layA, layB, layC]))
      refine on 15 ?_
      refine callH (by go_simp; (first | done | with_reducible rfl | exact ⟨rfl, rfl⟩)) ?_
      go_at_call 92
      refine (areBits_any _ _ _ _ _ pL2i.b (by omega)).mono ?_
      rintro e w_ ⟨rfl, rfl⟩
      refine ⟨.bool true, by rw [k4], hS, fun hS => ?_⟩
      (try simp only [Act.put, layA, layB, layC])
      (refine tk 16 hS ?_; (try simp only [Act.put, layA, layB, layC]))
      (refine tk 17 hS ?_; (try simp only [Act.put, layA, layB, layC]))
      (refine tk 18 hS ?_; (try simp only [Act.put, layA, layB, layC]))
      (refine tk 19 hS ?_; (try simp only [Act.put, layA, layB, layC]))
      (refine tk 20 hS ?_; (try simp only [Act.put, layA, layB, layC]))
      (refine tk 21 hS ?_; (try simp only [Act.put, layA, layB, layC]))
      refine on 22 ?_
      refine callH (by go_simp; (first | done | with_reducible rfl | exact ⟨rfl, rfl⟩)) ?_
      go_at_call 97
      refine (iCountGates_L (RdL.b cH) cL0n cL1n 4).mono ?_
      rintro e w2 ⟨rfl, b2⟩
      clear hS
      have z2 := Below.size b2
      (try simp only [World.size_alloc, World.size_setCell, size_drew] at z2)
      have B2 : Below w.heap.size w w2 := Below.t b2
      have xc_ : Box w2 (w.heap.size) #[(.slice cA0 cn0 cc0), (.slice cA1 cn1 cc1)] 27 := (Box.b xc b2)
      clear xc; have xc := xc_; clear xc_
      have xp_ : Box w2 (w.heap.size + 1) #[(.slice pA0 pn0 pc0), (.slice pA1 pn1 pc1), (.slice pA2 pn2 pc2)] 37 := (Box.b xp b2)
      clear xp; have xp := xp_; clear xp_
      refine ⟨_, rfl, ⟨xc.two.1, xc.two.2.1, xp.three.1, xp.three.2.1, xp.three.2.2.1⟩, fun hS => ?_⟩
      (try simp only [Act.put, layA, layB, layC])
      (refine tk 23 hS ?_; (try simp only [Act.put, layA, layB, layC]))
      (refine tk 24 hS ?_; (try simp only [Act.put, layA, layB, layC]))
      (refine tk 25 hS ?_; (try simp only [Act.put, layA, layB, layC]))
      (refine tk 26 hS ?_; (try simp only [Act.put, layA, layB, layC]))
      (refine ps 27 hS ?_; (try simp only [Act.put, layA, layB, layC]))
      (refine ps 28 hS ?_; (try simp only [Act.put, layA, layB, layC]))
      (refine ps 29 hS ?_; (try simp only [Act.put, layA, layB, layC]))
      (refine ps 30 hS ?_; (try simp only [Act.put, layA, layB, layC]))
      (refine ps 31 hS ?_; (try simp only [Act.put, layA, layB, layC]))
      (refine ps 32 hS ?_; (try simp only [Act.put, layA, layB, layC]))
      (refine tk 33 hS ?_; (try simp only [Act.put, layA, layB, layC]))
      (refine tk 34 hS ?_; (try simp only [Act.put, layA, layB, layC]))
      (refine ps 35 hS ?_; (try simp only [Act.put, layA, layB, layC]))
      (refine ps 36 hS ?_; (try simp only [Act.put, layA, layB, layC]))
      (refine ps 37 hS ?_; (try simp only [Act.put, layA, layB, layC]))
      (refine ps 38 hS ?_; (try simp only [Act.put, layA, layB, layC]))
      (refine ps 39 hS ?_; (try simp only [Act.put, layA, layB, layC]))
      (refine ps 40 hS ?_; (try simp only [Act.put, layA, layB, layC]))
      (refine ps 41 hS ?_; (try simp only [Act.put, layA, layB, layC]))
      (refine tk 42 hS ?_; (try simp only [Act.put, layA, layB, layC]))
      (refine tk 43 hS ?_; (try simp only [Act.put, layA, layB, layC]))
      clear hS
      refine wpAnyH_done (by kernel_rfl) ?_ _
      go_wp2
      go_ret
      exact ⟨ret_bool (by rw [HE.out, k1, k2, k3, k4, k5]; simp), by repeat (with_reducible (first | assumption | exact Below.refl _ _ | refine Below.alloc ?_ (by first | omega | (simp; done) | (simp; omega)) _ | refine Below.setCell ?_ (by first | omega | (simp; done) | (simp; omega)) _ | refine Below.drew ?_ | refine below_drewN ?_ _))⟩
     | true =>
      cases k6 : ((pn1 : Int) == ((countG cL0 2 : Nat) : Int)) with
      | false =>
       go_enter Try.func31, Try.ntmps31
       go_wp2_with fail
       refine wp_region_held_drew (S := fun W => W.cell? ⟨w.heap.size, 0, none⟩ = some ((.slice cA0 cn0 cc0)) ∧ W.cell? ⟨w.heap.size, 1, none⟩ = some ((.slice cA1 cn1 cc1)) ∧ W.cell? ⟨w.heap.size + 1, 0, none⟩ = some ((.slice pA0 pn0 pc0)) ∧ W.cell? ⟨w.heap.size + 1, 1, none⟩ = some ((.slice pA1 pn1 pc1)) ∧ W.cell? ⟨w.heap.size + 1, 2, none⟩ = some ((.slice pA2 pn2 pc2))) (by kernel_rfl) ⟨((Box.new (g := w.heap.size) _ #[(.slice cA0 cn0 cc0), (.slice cA1 cn1 cc1)] 27 (by simp)).alloc _).drew.two.1, ((Box.new (g := w.heap.size) _ #[(.slice cA0 cn0 cc0), (.slice cA1 cn1 cc1)] 27 (by simp)).alloc _).drew.two.2.1, (Box.new (g := w.heap.size + 1) _ #[(.slice pA0 pn0 pc0), (.slice pA1 pn1 pc1), (.slice pA2 pn2 pc2)] 37 (by simp)).drew.three.1, (Box.new (g := w.heap.size + 1) _ #[(.slice pA0 pn0 pc0), (.slice pA1 pn1 pc1), (.slice pA2 pn2 pc2)] 37 (by simp)).drew.three.2.1, (Box.new (g := w.heap.size + 1) _ #[(.slice pA0 pn0 pc0), (.slice pA1 pn1 pc1), (.slice pA2 pn2 pc2)] 37 (by simp)).drew.three.2.2.1⟩ (fun hS => ?_)
       (refine tk 0 hS ?_; (try simp only [Act.put, layA, layB, layC]))
       refine on 1 ?_
       refine callH (by go_simp; (first | done | with_reducible rfl | exact ⟨rfl, rfl⟩)) ?_
       go_at_call 86
       refine (iCircuitOk_L (RdL.b cH) cL0n cL1n).mono ?_
       rintro e w1 ⟨rfl, b1⟩
       clear hS
       have z1 := Below.size b1
       (try simp only [World.size_alloc, World.size_setCell, size_drew] at z1)
       have B1 : Below w.heap.size w w1 := Below.t b1
       have xc_ : Box w1 (w.heap.size) #[(.slice cA0 cn0 cc0), (.slice cA1 cn1 cc1)] 27 := (Box.b ((Box.new (g := w.heap.size) _ #[(.slice cA0 cn0 cc0), (.slice cA1 cn1 cc1)] 27 (by simp)).alloc _).drew b1)
       have xc := xc_; clear xc_
       have xp_ : Box w1 (w.heap.size + 1) #[(.slice pA0 pn0 pc0), (.slice pA1 pn1 pc1), (.slice pA2 pn2 pc2)] 37 := (Box.b (Box.new (g := w.heap.size + 1) _ #[(.slice pA0 pn0 pc0), (.slice pA1 pn1 pc1), (.slice pA2 pn2 pc2)] 37 (by simp)).drew b1)
       have xp := xp_; clear xp_
       refine ⟨.bool true, by rw [k1], ⟨xc.two.1, xc.two.2.1, xp.three.1, xp.three.2.1, xp.three.2.2.1⟩, fun hS => ?_⟩
       (try simp only [Act.put, layA, layB, layC])
       (refine tk 2 hS ?_; (try simp only [Act.put, layA, layB, layC]))
       (refine tk 3 hS ?_; (try simp only [Act.put, layA, layB, layC]))
       (refine tk 4 hS ?_; (try simp only [Act.put, layA, layB, layC]))
       refine on 5 ?_
       refine callH (by go_simp; (first | done | with_reducible rfl | exact ⟨rfl, rfl⟩)) ?_
       go_at_call 91
       refine (areLabels_any _ _ _ _ _ pL0i.b (by omega)).mono ?_
       rintro e w_ ⟨rfl, rfl⟩
       refine ⟨.bool true, by rw [k2], hS, fun hS => ?_⟩
       (try simp only [Act.put, layA, layB, layC])
       (refine tk 6 hS ?_; (try simp only [Act.put, layA, layB, layC]))
       (refine tk 7 hS ?_; (try simp only [Act.put, layA, layB, layC]))
       (refine tk 8 hS ?_; (try simp only [Act.put, layA, layB, layC]))
       (refine tk 9 hS ?_; (try simp only [Act.put, layA, layB, layC]))
       refine on 10 ?_
       refine callH (by go_simp; (first | done | with_reducible rfl | exact ⟨rfl, rfl⟩)) ?_
       go_at_call 91
       refine (areLabels_any _ _ _ _ _ pL1i.b (by omega)).mono ?_
       rintro e w_ ⟨rfl, rfl⟩
       refine ⟨.bool true, by rw [k3], hS, fun hS => ?_⟩
       (try simp only [Act.put, layA, layB, layC])
       (refine tk 11 hS ?_; (try simp only [Act.put, layA, layB, layC]))
       (refine tk 12 hS ?_; (try simp only [Act.put, layA, layB, layC]))
       (refine tk 13 hS ?_; (try simp only [Act.put, layA, layB, layC]))
       (refine tk 14 hS ?_; (try simp only [Act.put, layA, layB, layC]))
       refine on 15 ?_
       refine callH (by go_simp; (first | done | with_reducible rfl | exact ⟨rfl, rfl⟩)) ?_
       go_at_call 92
       refine (areBits_any _ _ _ _ _ pL2i.b (by omega)).mono ?_
       rintro e w_ ⟨rfl, rfl⟩
       refine ⟨.bool true, by rw [k4], hS, fun hS => ?_⟩
       (try simp only [Act.put, layA, layB, layC])
       (refine tk 16 hS ?_; (try simp only [Act.put, layA, layB, layC]))
       (refine tk 17 hS ?_; (try simp only [Act.put, layA, layB, layC]))
       (refine tk 18 hS ?_; (try simp only [Act.put, layA, layB, layC]))
       (refine tk 19 hS ?_; (try simp only [Act.put, layA, layB, layC]))
       (refine tk 20 hS ?_; (try simp only [Act.put, layA, layB, layC]))
       (refine tk 21 hS ?_; (try simp only [Act.put, layA, layB, layC]))
       refine on 22 ?_
       refine callH (by go_simp; (first | done | with_reducible rfl | exact ⟨rfl, rfl⟩)) ?_
       go_at_call 97
       refine (iCountGates_L (RdL.b cH) cL0n cL1n 4).mono ?_
       rintro e w2 ⟨rfl, b2⟩
       clear hS
       have z2 := Below.size b2
       (try simp only [World.size_alloc, World.size_setCell, size_drew] at z2)
       have B2 : Below w.heap.size w w2 := Below.t b2
       have xc_ : Box w2 (w.heap.size) #[(.slice cA0 cn0 cc0), (.slice cA1 cn1 cc1)] 27 := (Box.b xc b2)
       clear xc; have xc := xc_; clear xc_
       have xp_ : Box w2 (w.heap.size + 1) #[(.slice pA0 pn0 pc0), (.slice pA1 pn1 pc1), (.slice pA2 pn2 pc2)] 37 := (Box.b xp b2)
       clear xp; have xp := xp_; clear xp_
       refine ⟨_, rfl, ⟨xc.two.1, xc.two.2.1, xp.three.1, xp.three.2.1, xp.three.2.2.1⟩, fun hS => ?_⟩
       (try simp only [Act.put, layA, layB, layC])
       (refine tk 23 hS ?_; (try simp only [Act.put, layA, layB, layC]))
       (refine tk 24 hS ?_; (try simp only [Act.put, layA, layB, layC]))
       (refine tk 25 hS ?_; (try simp only [Act.put, layA, layB, layC]))
       (refine tk 26 hS ?_; (try simp only [Act.put, layA, layB, layC]))
       (refine tk 27 hS ?_; (try simp only [Act.put, layA, layB, layC]))
       (refine tk 28 hS ?_; (try simp only [Act.put, layA, layB, layC]))
       (refine tk 29 hS ?_; (try simp only [Act.put, layA, layB, layC]))
       (refine tk 30 hS ?_; (try simp only [Act.put, layA, layB, layC]))
       refine on 31 ?_
       refine callH (by go_simp; (first | done | with_reducible rfl | exact ⟨rfl, rfl⟩)) ?_
       go_at_call 97
       refine (iCountGates_L (RdL.b cH) cL0n cL1n 2).mono ?_
       rintro e w3 ⟨rfl, b3⟩
       clear hS
       have z3 := Below.size b3
       (try simp only [World.size_alloc, World.size_setCell, size_drew] at z3)
       have B3 : Below w.heap.size w w3 := Below.t b3
       have xc_ : Box w3 (w.heap.size) #[(.slice cA0 cn0 cc0), (.slice cA1 cn1 cc1)] 27 := (Box.b xc b3)
       clear xc; have xc := xc_; clear xc_
       have xp_ : Box w3 (w.heap.size + 1) #[(.slice pA0 pn0 pc0), (.slice pA1 pn1 pc1), (.slice pA2 pn2 pc2)] 37 := (Box.b xp b3)
       clear xp; have xp := xp_; clear xp_
       refine ⟨_, rfl, ⟨xc.two.1, xc.two.2.1, xp.three.1, xp.three.2.1, xp.three.2.2.1⟩, fun hS => ?_⟩
       (try simp only [Act.put, layA, layB, layC])
       (refine tk 32 hS ?_; (try simp only [Act.put, layA, layB, layC]))
       (refine tk 33 hS ?_; (try simp only [Act.put, layA, layB, layC]))
       (refine tk 34 hS ?_; (try simp only [Act.put, layA, layB, layC]))
       (refine ps 35 hS ?_; (try simp only [Act.put, layA, layB, layC]))
       (refine ps 36 hS ?_; (try simp only [Act.put, layA, layB, layC]))
       (refine ps 37 hS ?_; (try simp only [Act.put, layA, layB, layC]))
       (refine ps 38 hS ?_; (try simp only [Act.put, layA, layB, layC]))
       (refine ps 39 hS ?_; (try simp only [Act.put, layA, layB, layC]))
       (refine ps 40 hS ?_; (try simp only [Act.put, layA, layB, layC]))
       (refine ps 41 hS ?_; (try simp only [Act.put, layA, layB, layC]))
       (refine tk 42 hS ?_; (try simp only [Act.put, layA, layB, layC]))
       (refine tk 43 hS ?_; (try simp only [Act.put, layA, layB, layC]))
       clear hS
       refine wpAnyH_done (by kernel_rfl) ?_ _
       go_wp2
       go_ret
       exact ⟨ret_bool (by rw [HE.out, k1, k2, k3, k4, k5, k6]; simp), by repeat (with_reducible (first | assumption | exact Below.refl _ _ | refine Below.alloc ?_ (by first | omega | (simp; done) | (simp; omega)) _ | refine Below.setCell ?_ (by first | omega | (simp; done) | (simp; omega)) _ | refine Below.drew ?_ | refine below_drewN ?_ _))⟩
      | true =>
       cases k7 : ((pn2 : Int) == (cn1 : Int)) with
       | false =>
        go_enter Try.func31, Try.ntmps31
        go_wp2_with fail
        refine wp_region_held_drew (S := fun W => W.cell? ⟨w.heap.size, 0, none⟩ = some ((.slice cA0 cn0 cc0)) ∧ W.cell? ⟨w.heap.size, 1, none⟩ = some ((.slice cA1 cn1 cc1)) ∧ W.cell? ⟨w.heap.size + 1, 0, none⟩ = some ((.slice pA0 pn0 pc0)) ∧ W.cell? ⟨w.heap.size + 1, 1, none⟩ = some ((.slice pA1 pn1 pc1)) ∧ W.cell? ⟨w.heap.size + 1, 2, none⟩ = some ((.slice pA2 pn2 pc2))) (by kernel_rfl) ⟨((Box.new (g := w.heap.size) _ #[(.slice cA0 cn0 cc0), (.slice cA1 cn1 cc1)] 27 (by simp)).alloc _).drew.two.1, ((Box.new (g := w.heap.size) _ #[(.slice cA0 cn0 cc0), (.slice cA1 cn1 cc1)] 27 (by simp)).alloc _).drew.two.2.1, (Box.new (g := w.heap.size + 1) _ #[(.slice pA0 pn0 pc0), (.slice pA1 pn1 pc1), (.slice pA2 pn2 pc2)] 37 (by simp)).drew.three.1, (Box.new (g := w.heap.size + 1) _ #[(.slice pA0 pn0 pc0), (.slice pA1 pn1 pc1), (.slice pA2 pn2 pc2)] 37 (by simp)).drew.three.2.1, (Box.new (g := w.heap.size + 1) _ #[(.slice pA0 pn0 pc0), (.slice pA1 pn1 pc1), (.slice pA2 pn2 pc2)] 37 (by simp)).drew.three.2.2.1⟩ (fun hS => ?_)
        (refine tk 0 hS ?_; (try simp only [Act.put, layA, layB, layC]))
        refine on 1 ?_
        refine callH (by go_simp; (first | done | with_reducible rfl | exact ⟨rfl, rfl⟩)) ?_
        go_at_call 86
        refine (iCircuitOk_L (RdL.b cH) cL0n cL1n).mono ?_
        rintro e w1 ⟨rfl, b1⟩
        clear hS
        have z1 := Below.size b1
        (try simp only [World.size_alloc, World.size_setCell, size_drew] at z1)
        have B1 : Below w.heap.size w w1 := Below.t b1
        have xc_ : Box w1 (w.heap.size) #[(.slice cA0 cn0 cc0), (.slice cA1 cn1 cc1)] 27 := (Box.b ((Box.new (g := w.heap.size) _ #[(.slice cA0 cn0 cc0), (.slice cA1 cn1 cc1)] 27 (by simp)).alloc _).drew b1)
        have xc := xc_; clear xc_
        have xp_ : Box w1 (w.heap.size + 1) #[(.slice pA0 pn0 pc0), (.slice pA1 pn1 pc1), (.slice pA2 pn2 pc2)] 37 := (Box.b (Box.new (g := w.heap.size + 1) _ #[(.slice pA0 pn0 pc0), (.slice pA1 pn1 pc1), (.slice pA2 pn2 pc2)] 37 (by simp)).drew b1)
        have xp := xp_; clear xp_
        refine ⟨.bool true, by rw [k1], ⟨xc.two.1, xc.two.2.1, xp.three.1, xp.three.2.1, xp.three.2.2.1⟩, fun hS => ?_⟩
        (try simp only [Act.put, layA, layB, layC])
        (refine tk 2 hS ?_; (try simp only [Act.put, layA, layB, layC]))
        (refine tk 3 hS ?_; (try simp only [Act.put, layA, layB, layC]))
        (refine tk 4 hS ?_; (try simp only [Act.put, layA, layB, layC]))
        refine on 5 ?_
        refine callH (by go_simp; (first | done | with_reducible rfl | exact ⟨rfl, rfl⟩)) ?_
        go_at_call 91
        refine (areLabels_any _ _ _ _ _ pL0i.b (by omega)).mono ?_
        rintro e w_ ⟨rfl, rfl⟩
        refine ⟨.bool true, by rw [k2], hS, fun hS => ?_⟩
        (try simp only [Act.put, layA, layB, layC])
        (refine tk 6 hS ?_; (try simp only [Act.put, layA, layB, layC]))
        (refine tk 7 hS ?_; (try simp only [Act.put, layA, layB, layC]))
        (refine tk 8 hS ?_; (try simp only [Act.put, layA, layB, layC]))
        (refine tk 9 hS ?_; (try simp only [Act.put, layA, layB, layC]))
        refine on 10 ?_
        refine callH (by go_simp; (first | done | with_reducible rfl | exact ⟨rfl, rfl⟩)) ?_
        go_at_call 91
        refine (areLabels_any _ _ _ _ _ pL1i.b (by omega)).mono ?_
        rintro e w_ ⟨rfl, rfl⟩
        refine ⟨.bool true, by rw [k3], hS, fun hS => ?_⟩
        (try simp only [Act.put, layA, layB, layC])
        (refine tk 11 hS ?_; (try simp only [Act.put, layA, layB, layC]))
        (refine tk 12 hS ?_; (try simp only [Act.put, layA, layB, layC]))
        (refine tk 13 hS ?_; (try simp only [Act.put, layA, layB, layC]))
        (refine tk 14 hS ?_; (try simp only [Act.put, layA, layB, layC]))
        refine on 15 ?_
        refine callH (by go_simp; (first | done | with_reducible rfl | exact ⟨rfl, rfl⟩)) ?_
        go_at_call 92
        refine (areBits_any _ _ _ _ _ pL2i.b (by omega)).mono ?_
        rintro e w_ ⟨rfl, rfl⟩
        refine ⟨.bool true, by rw [k4], hS, fun hS => ?_⟩
        (try simp only [Act.put, layA, layB, layC])
        (refine tk 16 hS ?_; (try simp only [Act.put, layA, layB, layC]))
        (refine tk 17 hS ?_; (try simp only [Act.put, layA, layB, layC]))
        (refine tk 18 hS ?_; (try simp only [Act.put, layA, layB, layC]))
        (refine tk 19 hS ?_; (try simp only [Act.put, layA, layB, layC]))
        (refine tk 20 hS ?_; (try simp only [Act.put, layA, layB, layC]))
        (refine tk 21 hS ?_; (try simp only [Act.put, layA, layB, layC]))
        refine on 22 ?_
        refine callH (by go_simp; (first | done | with_reducible rfl | exact ⟨rfl, rfl⟩)) ?_
        go_at_call 97
        refine (iCountGates_L (RdL.b cH) cL0n cL1n 4).mono ?_
        rintro e w2 ⟨rfl, b2⟩
        clear hS
        have z2 := Below.size b2
        (try simp only [World.size_alloc, World.size_setCell, size_drew] at z2)
        have B2 : Below w.heap.size w w2 := Below.t b2
        have xc_ : Box w2 (w.heap.size) #[(.slice cA0 cn0 cc0), (.slice cA1 cn1 cc1)] 27 := (Box.b xc b2)
        clear xc; have xc := xc_; clear xc_
        have xp_ : Box w2 (w.heap.size + 1) #[(.slice pA0 pn0 pc0), (.slice pA1 pn1 pc1), (.slice pA2 pn2 pc2)] 37 := (Box.b xp b2)
        clear xp; have xp := xp_; clear xp_
        refine ⟨_, rfl, ⟨xc.two.1, xc.two.2.1, xp.three.1, xp.three.2.1, xp.three.2.2.1⟩, fun hS => ?_⟩
        (try simp only [Act.put, layA, layB, layC])
        (refine tk 23 hS ?_; (try simp only [Act.put, layA, layB, layC]))
        (refine tk 24 hS ?_; (try simp only [Act.put, layA, layB, layC]))
        (refine tk 25 hS ?_; (try simp only [Act.put, layA, layB, layC]))
        (refine tk 26 hS ?_; (try simp only [Act.put, layA, layB, layC]))
        (refine tk 27 hS ?_; (try simp only [Act.put, layA, layB, layC]))
        (refine tk 28 hS ?_; (try simp only [Act.put, layA, layB, layC]))
        (refine tk 29 hS ?_; (try simp only [Act.put, layA, layB, layC]))
        (refine tk 30 hS ?_; (try simp only [Act.put, layA, layB, layC]))
        refine on 31 ?_
        refine callH (by go_simp; (first | done | with_reducible rfl | exact ⟨rfl, rfl⟩)) ?_
        go_at_call 97
        refine (iCountGates_L (RdL.b cH) cL0n cL1n 2).mono ?_
        rintro e w3 ⟨rfl, b3⟩
        clear hS
        have z3 := Below.size b3
        (try simp only [World.size_alloc, World.size_setCell, size_drew] at z3)
        have B3 : Below w.heap.size w w3 := Below.t b3
        have xc_ : Box w3 (w.heap.size) #[(.slice cA0 cn0 cc0), (.slice cA1 cn1 cc1)] 27 := (Box.b xc b3)
        clear xc; have xc := xc_; clear xc_
        have xp_ : Box w3 (w.heap.size + 1) #[(.slice pA0 pn0 pc0), (.slice pA1 pn1 pc1), (.slice pA2 pn2 pc2)] 37 := (Box.b xp b3)
        clear xp; have xp := xp_; clear xp_
        refine ⟨_, rfl, ⟨xc.two.1, xc.two.2.1, xp.three.1, xp.three.2.1, xp.three.2.2.1⟩, fun hS => ?_⟩
        (try simp only [Act.put, layA, layB, layC])
        (refine tk 32 hS ?_; (try simp only [Act.put, layA, layB, layC]))
        (refine tk 33 hS ?_; (try simp only [Act.put, layA, layB, layC]))
        (refine tk 34 hS ?_; (try simp only [Act.put, layA, layB, layC]))
        (refine tk 35 hS ?_; (try simp only [Act.put, layA, layB, layC]))
        (refine tk 36 hS ?_; (try simp only [Act.put, layA, layB, layC]))
        (refine tk 37 hS ?_; (try simp only [Act.put, layA, layB, layC]))
        (refine tk 38 hS ?_; (try simp only [Act.put, layA, layB, layC]))
        (refine tk 39 hS ?_; (try simp only [Act.put, layA, layB, layC]))
        (refine tk 40 hS ?_; (try simp only [Act.put, layA, layB, layC]))
        (refine tk 41 hS ?_; (try simp only [Act.put, layA, layB, layC]))
        (refine tk 42 hS ?_; (try simp only [Act.put, layA, layB, layC]))
        (refine tk 43 hS ?_; (try simp only [Act.put, layA, layB, layC]))
        clear hS
        refine wpAnyH_done (by kernel_rfl) ?_ _
        go_wp2
        go_ret
        exact ⟨ret_bool (by rw [HE.out, k1, k2, k3, k4, k5, k6, k7]; simp), by repeat (with_reducible (first | assumption | exact Below.refl _ _ | refine Below.alloc ?_ (by first | omega | (simp; done) | (simp; omega)) _ | refine Below.setCell ?_ (by first | omega | (simp; done) | (simp; omega)) _ | refine Below.drew ?_ | refine below_drewN ?_ _))⟩
       | true =>
        go_enter Try.func31, Try.ntmps31
        go_wp2_with fail
        refine wp_region_held_drew (S := fun W => W.cell? ⟨w.heap.size, 0, none⟩ = some ((.slice cA0 cn0 cc0)) ∧ W.cell? ⟨w.heap.size, 1, none⟩ = some ((.slice cA1 cn1 cc1)) ∧ W.cell? ⟨w.heap.size + 1, 0, none⟩ = some ((.slice pA0 pn0 pc0)) ∧ W.cell? ⟨w.heap.size + 1, 1, none⟩ = some ((.slice pA1 pn1 pc1)) ∧ W.cell? ⟨w.heap.size + 1, 2, none⟩ = some ((.slice pA2 pn2 pc2))) (by kernel_rfl) ⟨((Box.new (g := w.heap.size) _ #[(.slice cA0 cn0 cc0), (.slice cA1 cn1 cc1)] 27 (by simp)).alloc _).drew.two.1, ((Box.new (g := w.heap.size) _ #[(.slice cA0 cn0 cc0), (.slice cA1 cn1 cc1)] 27 (by simp)).alloc _).drew.two.2.1, (Box.new (g := w.heap.size + 1) _ #[(.slice pA0 pn0 pc0), (.slice pA1 pn1 pc1), (.slice pA2 pn2 pc2)] 37 (by simp)).drew.three.1, (Box.new (g := w.heap.size + 1) _ #[(.slice pA0 pn0 pc0), (.slice pA1 pn1 pc1), (.slice pA2 pn2 pc2)] 37 (by simp)).drew.three.2.1, (Box.new (g := w.heap.size + 1) _ #[(.slice pA0 pn0 pc0), (.slice pA1 pn1 pc1), (.slice pA2 pn2 pc2)] 37 (by simp)).drew.three.2.2.1⟩ (fun hS => ?_)
        (refine tk 0 hS ?_; (try simp only [Act.put, layA, layB, layC]))
        refine on 1 ?_
        refine callH (by go_simp; (first | done | with_reducible rfl | exact ⟨rfl, rfl⟩)) ?_
        go_at_call 86
        refine (iCircuitOk_L (RdL.b cH) cL0n cL1n).mono ?_
        rintro e w1 ⟨rfl, b1⟩
        clear hS
        have z1 := Below.size b1
        (try simp only [World.size_alloc, World.size_setCell, size_drew] at z1)
        have B1 : Below w.heap.size w w1 := Below.t b1
        have xc_ : Box w1 (w.heap.size) #[(.slice cA0 cn0 cc0), (.slice cA1 cn1 cc1)] 27 := (Box.b ((Box.new (g := w.heap.size) _ #[(.slice cA0 cn0 cc0), (.slice cA1 cn1 cc1)] 27 (by simp)).alloc _).drew b1)
        have xc := xc_; clear xc_
        have xp_ : Box w1 (w.heap.size + 1) #[(.slice pA0 pn0 pc0), (.slice pA1 pn1 pc1), (.slice pA2 pn2 pc2)] 37 := (Box.b (Box.new (g := w.heap.size + 1) _ #[(.slice pA0 pn0 pc0), (.slice pA1 pn1 pc1), (.slice pA2 pn2 pc2)] 37 (by simp)).drew b1)
        have xp := xp_; clear xp_
        refine ⟨.bool true, by rw [k1], ⟨xc.two.1, xc.two.2.1, xp.three.1, xp.three.2.1, xp.three.2.2.1⟩, fun hS => ?_⟩
        (try simp only [Act.put, layA, layB, layC])
        (refine tk 2 hS ?_; (try simp only [Act.put, layA, layB, layC]))
        (refine tk 3 hS ?_; (try simp only [Act.put, layA, layB, layC]))
        (refine tk 4 hS ?_; (try simp only [Act.put, layA, layB, layC]))
        refine on 5 ?_
        refine callH (by go_simp; (first | done | with_reducible rfl | exact ⟨rfl, rfl⟩)) ?_
        go_at_call 91
        refine (areLabels_any _ _ _ _ _ pL0i.b (by omega)).mono ?_
        rintro e w_ ⟨rfl, rfl⟩
        refine ⟨.bool true, by rw [k2], hS, fun hS => ?_⟩
        (try simp only [Act.put, layA, layB, layC])
        (refine tk 6 hS ?_; (try simp only [Act.put, layA, layB, layC]))
        (refine tk 7 hS ?_; (try simp only [Act.put, layA, layB, layC]))
        (refine tk 8 hS ?_; (try simp only [Act.put, layA, layB, layC]))
        (refine tk 9 hS ?_; (try simp only [Act.put, layA, layB, layC]))
        refine on 10 ?_
        refine callH (by go_simp; (first | done | with_reducible rfl | exact ⟨rfl, rfl⟩)) ?_
        go_at_call 91
        refine (areLabels_any _ _ _ _ _ pL1i.b (by omega)).mono ?_
        rintro e w_ ⟨rfl, rfl⟩
        refine ⟨.bool true, by rw [k3], hS, fun hS => ?_⟩
        (try simp only [Act.put, layA, layB, layC])
        (refine tk 11 hS ?_; (try simp only [Act.put, layA, layB, layC]))
        (refine tk 12 hS ?_; (try simp only [Act.put, layA, layB, layC]))
        (refine tk 13 hS ?_; (try simp only [Act.put, layA, layB, layC]))
        (refine tk 14 hS ?_; (try simp only [Act.put, layA, layB, layC]))
        refine on 15 ?_
        refine callH (by go_simp; (first | done | with_reducible rfl | exact ⟨rfl, rfl⟩)) ?_
        go_at_call 92
        refine (areBits_any _ _ _ _ _ pL2i.b (by omega)).mono ?_
        rintro e w_ ⟨rfl, rfl⟩
        refine ⟨.bool true, by rw [k4], hS, fun hS => ?_⟩
        (try simp only [Act.put, layA, layB, layC])
        (refine tk 16 hS ?_; (try simp only [Act.put, layA, layB, layC]))
        (refine tk 17 hS ?_; (try simp only [Act.put, layA, layB, layC]))
        (refine tk 18 hS ?_; (try simp only [Act.put, layA, layB, layC]))
        (refine tk 19 hS ?_; (try simp only [Act.put, layA, layB, layC]))
        (refine tk 20 hS ?_; (try simp only [Act.put, layA, layB, layC]))
        (refine tk 21 hS ?_; (try simp only [Act.put, layA, layB, layC]))
        refine on 22 ?_
        refine callH (by go_simp; (first | done | with_reducible rfl | exact ⟨rfl, rfl⟩)) ?_
        go_at_call 97
        refine (iCountGates_L (RdL.b cH) cL0n cL1n 4).mono ?_
        rintro e w2 ⟨rfl, b2⟩
        clear hS
        have z2 := Below.size b2
        (try simp only [World.size_alloc, World.size_setCell, size_drew] at z2)
        have B2 : Below w.heap.size w w2 := Below.t b2
        have xc_ : Box w2 (w.heap.size) #[(.slice cA0 cn0 cc0), (.slice cA1 cn1 cc1)] 27 := (Box.b xc b2)
        clear xc; have xc := xc_; clear xc_
        have xp_ : Box w2 (w.heap.size + 1) #[(.slice pA0 pn0 pc0), (.slice pA1 pn1 pc1), (.slice pA2 pn2 pc2)] 37 := (Box.b xp b2)
        clear xp; have xp := xp_; clear xp_
        refine ⟨_, rfl, ⟨xc.two.1, xc.two.2.1, xp.three.1, xp.three.2.1, xp.three.2.2.1⟩, fun hS => ?_⟩
        (try simp only [Act.put, layA, layB, layC])
        (refine tk 23 hS ?_; (try simp only [Act.put, layA, layB, layC]))
        (refine tk 24 hS ?_; (try simp only [Act.put, layA, layB, layC]))
        (refine tk 25 hS ?_; (try simp only [Act.put, layA, layB, layC]))
        (refine tk 26 hS ?_; (try simp only [Act.put, layA, layB, layC]))
        (refine tk 27 hS ?_; (try simp only [Act.put, layA, layB, layC]))
        (refine tk 28 hS ?_; (try simp only [Act.put, layA, layB, layC]))
        (refine tk 29 hS ?_; (try simp only [Act.put, layA, layB, layC]))
        (refine tk 30 hS ?_; (try simp only [Act.put, layA, layB, layC]))
        refine on 31 ?_
        refine callH (by go_simp; (first | done | with_reducible rfl | exact ⟨rfl, rfl⟩)) ?_
        go_at_call 97
        refine (iCountGates_L (RdL.b cH) cL0n cL1n 2).mono ?_
        rintro e w3 ⟨rfl, b3⟩
        clear hS
        have z3 := Below.size b3
        (try simp only [World.size_alloc, World.size_setCell, size_drew] at z3)
        have B3 : Below w.heap.size w w3 := Below.t b3
        have xc_ : Box w3 (w.heap.size) #[(.slice cA0 cn0 cc0), (.slice cA1 cn1 cc1)] 27 := (Box.b xc b3)
        clear xc; have xc := xc_; clear xc_
        have xp_ : Box w3 (w.heap.size + 1) #[(.slice pA0 pn0 pc0), (.slice pA1 pn1 pc1), (.slice pA2 pn2 pc2)] 37 := (Box.b xp b3)
        clear xp; have xp := xp_; clear xp_
        refine ⟨_, rfl, ⟨xc.two.1, xc.two.2.1, xp.three.1, xp.three.2.1, xp.three.2.2.1⟩, fun hS => ?_⟩
        (try simp only [Act.put, layA, layB, layC])
        (refine tk 32 hS ?_; (try simp only [Act.put, layA, layB, layC]))
        (refine tk 33 hS ?_; (try simp only [Act.put, layA, layB, layC]))
        (refine tk 34 hS ?_; (try simp only [Act.put, layA, layB, layC]))
        (refine tk 35 hS ?_; (try simp only [Act.put, layA, layB, layC]))
        (refine tk 36 hS ?_; (try simp only [Act.put, layA, layB, layC]))
        (refine tk 37 hS ?_; (try simp only [Act.put, layA, layB, layC]))
        (refine tk 38 hS ?_; (try simp only [Act.put, layA, layB, layC]))
        (refine tk 39 hS ?_; (try simp only [Act.put, layA, layB, layC]))
        (refine tk 40 hS ?_; (try simp only [Act.put, layA, layB, layC]))
        (refine tk 41 hS ?_; (try simp only [Act.put, layA, layB, layC]))
        (refine tk 42 hS ?_; (try simp only [Act.put, layA, layB, layC]))
        (refine tk 43 hS ?_; (try simp only [Act.put, layA, layB, layC]))
        clear hS
        refine wpAnyH_done (by kernel_rfl) ?_ _
        go_wp2
        go_ret
        exact ⟨ret_bool (by rw [HE.out, k1, k2, k3, k4, k5, k6, k7]; simp), by repeat (with_reducible (first | assumption | exact Below.refl _ _ | refine Below.alloc ?_ (by first | omega | (simp; done) | (simp; omega)) _ | refine Below.setCell ?_ (by first | omega | (simp; done) | (simp; omega)) _ | refine Below.drew ?_ | refine below_drewN ?_ _))⟩
set_option maxRecDepth 100000 in
set_option maxHeartbeats 2000000 in
theorem sPublicOk_L {cA0 : Option Addr} {cn0 cc0 : Nat} {cL0 : List (Int × Int × Int)} {cA1 : Option Addr} {cn1 cc1 : Nat} {cL1 : List Int} {pA0 : Option Addr} {pn0 pc0 : Nat} {pL0 : List Int} {pA1 : Option Addr} {pn1 pc1 : Nat} {pL1 : List Int} {pA2 : Option Addr} {pn2 pc2 : Nat} {pL2 : List Int} {w : World} (cH : RdL w [((.slice cA0 cn0 cc0), .gates cL0), ((.slice cA1 cn1 cc1), .ints cL1)]) (cL0n : cL0.length ≤ 1048576) (cL1n : cL1.length ≤ 1048576) (pH : RdL w [((.slice pA0 pn0 pc0), .ints pL0), ((.slice pA1 pn1 pc1), .ints pL1), ((.slice pA2 pn2 pc2), .ints pL2)]) (pL0n : pL0.length ≤ 1048576) (pL1n : pL1.length ≤ 1048576) (pL2n : pL2.length ≤ 1048576) :
  Calls Try.prog 63 #[.agg #[(.slice cA0 cn0 cc0), (.slice cA1 cn1 cc1)], .agg #[(.slice pA0 pn0 pc0), (.slice pA1 pn1 pc1), (.slice pA2 pn2 pc2)]] w fun e w' => e = .returned (.bool (pbOk cL0 cL1 pL0 pL1 pL2)) ∧ Below w.heap.size w w' := by
 have cL0g : Gates w cA0 cn0 cL0 := RdG.toG (cH ((.slice cA0 cn0 cc0), .gates cL0) (by simp))
 have cL0l := Lib.hid cL0g.1
 have cL0m : cn0 ≤ 1048576 := by rw [← cL0l.out]; exact cL0n
 have cL1i : Ints w cA1 cn1 cL1 := Rd.toInts (cH ((.slice cA1 cn1 cc1), .ints cL1) (by simp))
 have cL1l := Lib.hid cL1i.len
 have cL1m : cn1 ≤ 1048576 := by rw [← cL1l.out]; exact cL1n
 have pL0i : Ints w pA0 pn0 pL0 := Rd.toInts (pH ((.slice pA0 pn0 pc0), .ints pL0) (by simp))
 have pL0l := Lib.hid pL0i.len
 have pL0m : pn0 ≤ 1048576 := by rw [← pL0l.out]; exact pL0n
 have pL1i : Ints w pA1 pn1 pL1 := Rd.toInts (pH ((.slice pA1 pn1 pc1), .ints pL1) (by simp))
 have pL1l := Lib.hid pL1i.len
 have pL1m : pn1 ≤ 1048576 := by rw [← pL1l.out]; exact pL1n
 have pL2i : Ints w pA2 pn2 pL2 := Rd.toInts (pH ((.slice pA2 pn2 pc2), .ints pL2) (by simp))
 have pL2l := Lib.hid pL2i.len
 have pL2m : pn2 ≤ 1048576 := by rw [← pL2l.out]; exact pL2n
 have HE := Lib.hid (show pbOk cL0 cL1 pL0 pL1 pL2 = (circOk cL0 cL1 && labelsOk pL0 (2 * ((countG cL0 4 : Nat) : Int)) && labelsOk pL1 ((countG cL0 2 : Nat) : Int) && bitsOk pL2 (cn1 : Int)) by rw [pbOk, cL1l.out])
 have hc4 : countG cL0 4 ≤ 1048576 := Nat.le_trans (cntG_le _ _ _) cL0n
 have hw1 : IntKind.i64.wrap (2 * ((countG cL0 4 : Nat) : Int)) = 2 * ((countG cL0 4 : Nat) : Int) := by (rw [IntKind.wrap_i64]; (first | omega | (unfold wrap64; omega)))
 cases k1 : circOk cL0 cL1 with
 | false =>
  go_enter Try.func63, Try.ntmps63
  go_wp2_with fail
  refine wp_region_held_drew (S := fun W => W.cell? ⟨w.heap.size, 0, none⟩ = some ((.slice cA0 cn0 cc0)) ∧ W.cell? ⟨w.heap.size, 1, none⟩ = some ((.slice cA1 cn1 cc1)) ∧ W.cell? ⟨w.heap.size + 1, 0, none⟩ = some ((.slice pA0 pn0 pc0)) ∧ W.cell? ⟨w.heap.size + 1, 1, none⟩ = some ((.slice pA1 pn1 pc1)) ∧ W.cell? ⟨w.heap.size + 1, 2, none⟩ = some ((.slice pA2 pn2 pc2))) (by kernel_rfl) ⟨((Box.new (g := w.heap.size) _ #[(.slice cA0 cn0 cc0), (.slice cA1 cn1 cc1)] 27 (by simp)).alloc _).drew.two.1, ((Box.new (g := w.heap.size) _ #[(.slice cA0 cn0 cc0), (.slice cA1 cn1 cc1)] 27 (by simp)).alloc _).drew.two.2.1, (Box.new (g := w.heap.size + 1) _ #[(.slice pA0 pn0 pc0), (.slice pA1 pn1 pc1), (.slice pA2 pn2 pc2)] 37 (by simp)).drew.three.1, (Box.new (g := w.heap.size + 1) _ #[(.slice pA0 pn0 pc0), (.slice pA1 pn1 pc1), (.slice pA2 pn2 pc2)] 37 (by simp)).drew.three.2.1, (Box.new (g := w.heap.size + 1) _ #[(.slice pA0 pn0 pc0), (.slice pA1 pn1 pc1), (.slice pA2 pn2 pc2)] 37 (by simp)).drew.three.2.2.1⟩ (fun hS => ?_)
  (refine tk 0 hS ?_; (try simp only [Act.put, layA, layB, layC]))
  refine on 1 ?_
  refine callH (by go_simp; (first | done | with_reducible rfl | exact ⟨rfl, rfl⟩)) ?_
  go_at_call 93
  refine (sCircuitOk_L (RdL.b cH) cL0n cL1n).mono ?_
  rintro e w1 ⟨rfl, b1⟩
  clear hS
  have z1 := Below.size b1
  (try simp only [World.size_alloc, World.size_setCell, size_drew] at z1)
  have B1 : Below w.heap.size w w1 := Below.t b1
  have xc_ : Box w1 (w.heap.size) #[(.slice cA0 cn0 cc0), (.slice cA1 cn1 cc1)] 27 := (Box.b ((Box.new (g := w.heap.size) _ #[(.slice cA0 cn0 cc0), (.slice cA1 cn1 cc1)] 27 (by simp)).alloc _).drew b1)
  have xc := xc_; clear xc_
  have xp_ : Box w1 (w.heap.size + 1) #[(.slice pA0 pn0 pc0), (.slice pA1 pn1 pc1), (.slice pA2 pn2 pc2)] 37 := (Box.b (Box.new (g := w.heap.size + 1) _ #[(.slice pA0 pn0 pc0), (.slice pA1 pn1 pc1), (.slice pA2 pn2 pc2)] 37 (by simp)).drew b1)
  have xp := xp_; clear xp_
  refine ⟨.bool false, by rw [k1], ⟨xc.two.1, xc.two.2.1, xp.three.1, xp.three.2.1, xp.three.2.2.1⟩, fun hS => ?_⟩
  (try simp only [Act.put, layA, layB, layC])
  (refine tk 2 hS ?_; (try simp only [Act.put, layA, layB, layC]))
  (refine ps 3 hS ?_; (try simp only [Act.put, layA, layB, layC]))
  (refine ps 4 hS ?_; (try simp only [Act.put, layA, layB, layC]))
  (refine ps 5 hS ?_; (try simp only [Act.put, layA, layB, layC]))
  (refine ps 6 hS ?_; (try simp only [Act.put, layA, layB, layC]))
  (refine ps 7 hS ?_; (try simp only [Act.put, layA, layB, layC]))
  (refine ps 8 hS ?_; (try simp only [Act.put, layA, layB, layC]))
  (refine tk 9 hS ?_; (try simp only [Act.put, layA, layB, layC]))
  (refine tk 10 hS ?_; (try simp only [Act.put, layA, layB, layC]))
  (refine ps 11 hS ?_; (try simp only [Act.put, layA, layB, layC]))
  (refine ps 12 hS ?_; (try simp only [Act.put, layA, layB, layC]))
  (refine ps 13 hS ?_; (try simp only [Act.put, layA, layB, layC]))
  (refine ps 14 hS ?_; (try simp only [Act.put, layA, layB, layC]))
  (refine ps 15 hS ?_; (try simp only [Act.put, layA, layB, layC]))
  (refine tk 16 hS ?_; (try simp only [Act.put, layA, layB, layC]))
  (refine tk 17 hS ?_; (try simp only [Act.put, layA, layB, layC]))
  (refine ps 18 hS ?_; (try simp only [Act.put, layA, layB, layC]))
  (refine ps 19 hS ?_; (try simp only [Act.put, layA, layB, layC]))
  (refine ps 20 hS ?_; (try simp only [Act.put, layA, layB, layC]))
  (refine ps 21 hS ?_; (try simp only [Act.put, layA, layB, layC]))
  (refine ps 22 hS ?_; (try simp only [Act.put, layA, layB, layC]))
  (refine ps 23 hS ?_; (try simp only [Act.put, layA, layB, layC]))
  (refine tk 24 hS ?_; (try simp only [Act.put, layA, layB, layC]))
  (refine tk 25 hS ?_; (try simp only [Act.put, layA, layB, layC]))
  clear hS
  refine wpAnyH_done (by kernel_rfl) ?_ _
  go_wp2
  go_ret
  exact ⟨ret_bool (by rw [HE.out, k1]; simp), by repeat (with_reducible (first | assumption | exact Below.refl _ _ | refine Below.alloc ?_ (by first | omega | (simp; done) | (simp; omega)) _ | refine Below.setCell ?_ (by first | omega | (simp; done) | (simp; omega)) _ | refine Below.drew ?_ | refine below_drewN ?_ _))⟩
 | true =>
  cases k2 : labelsOk pL0 (2 * ((countG cL0 4 : Nat) : Int)) with
  | false =>
   go_enter Try.func63, Try.ntmps63
   go_wp2_with fail
   refine wp_region_held_drew (S := fun W => W.cell? ⟨w.heap.size, 0, none⟩ = some ((.slice cA0 cn0 cc0)) ∧ W.cell? ⟨w.heap.size, 1, none⟩ = some ((.slice cA1 cn1 cc1)) ∧ W.cell? ⟨w.heap.size + 1, 0, none⟩ = some ((.slice pA0 pn0 pc0)) ∧ W.cell? ⟨w.heap.size + 1, 1, none⟩ = some ((.slice pA1 pn1 pc1)) ∧ W.cell? ⟨w.heap.size + 1, 2, none⟩ = some ((.slice pA2 pn2 pc2))) (by kernel_rfl) ⟨((Box.new (g := w.heap.size) _ #[(.slice cA0 cn0 cc0), (.slice cA1 cn1 cc1)] 27 (by simp)).alloc _).drew.two.1, ((Box.new (g := w.heap.size) _ #[(.slice cA0 cn0 cc0), (.slice cA1 cn1 cc1)] 27 (by simp)).alloc _).drew.two.2.1, (Box.new (g := w.heap.size + 1) _ #[(.slice pA0 pn0 pc0), (.slice pA1 pn1 pc1), (.slice pA2 pn2 pc2)] 37 (by simp)).drew.three.1, (Box.new (g := w.heap.size + 1) _ #[(.slice pA0 pn0 pc0), (.slice pA1 pn1 pc1), (.slice pA2 pn2 pc2)] 37 (by simp)).drew.three.2.1, (Box.new (g := w.heap.size + 1) _ #[(.slice pA0 pn0 pc0), (.slice pA1 pn1 pc1), (.slice pA2 pn2 pc2)] 37 (by simp)).drew.three.2.2.1⟩ (fun hS => ?_)
   (refine tk 0 hS ?_; (try simp only [Act.put, layA, layB, layC]))
   refine on 1 ?_
   refine callH (by go_simp; (first | done | with_reducible rfl | exact ⟨rfl, rfl⟩)) ?_
   go_at_call 93
   refine (sCircuitOk_L (RdL.b cH) cL0n cL1n).mono ?_
   rintro e w1 ⟨rfl, b1⟩
   clear hS
   have z1 := Below.size b1
   (try simp only [World.size_alloc, World.size_setCell, size_drew] at z1)
   have B1 : Below w.heap.size w w1 := Below.t b1
   have xc_ : Box w1 (w.heap.size) #[(.slice cA0 cn0 cc0), (.slice cA1 cn1 cc1)] 27 := (Box.b ((Box.new (g := w.heap.size) _ #[(.slice cA0 cn0 cc0), (.slice cA1 cn1 cc1)] 27 (by simp)).alloc _).drew b1)
   have xc := xc_; clear xc_
   have xp_ : Box w1 (w.heap.size + 1) #[(.slice pA0 pn0 pc0), (.slice pA1 pn1 pc1), (.slice pA2 pn2 pc2)] 37 := (Box.b (Box.new (g := w.heap.size + 1) _ #[(.slice pA0 pn0 pc0), (.slice pA1 pn1 pc1), (.slice pA2 pn2 pc2)] 37 (by simp)).drew b1)
   have xp := xp_; clear xp_
   refine ⟨.bool true, by rw [k1], ⟨xc.two.1, xc.two.2.1, xp.three.1, xp.three.2.1, xp.three.2.2.1⟩, fun hS => ?_⟩
   (try simp only [Act.put, layA, layB, layC])
   (refine tk 2 hS ?_; (try simp only [Act.put, layA, layB, layC]))
   (refine tk 3 hS ?_; (try simp only [Act.put, layA, layB, layC]))
   (refine tk 4 hS ?_; (try simp only [Act.put, layA, layB, layC]))
   (refine tk 5 hS ?_; (try simp only [Act.put, layA, layB, layC]))
   refine on 6 ?_
   refine callH (by go_simp; (first | done | with_reducible rfl | exact ⟨rfl, rfl⟩)) ?_
   go_at_call 67
   refine (sCountGates_L (RdL.b cH) cL0n cL1n 4).mono ?_
   rintro e w2 ⟨rfl, b2⟩
   clear hS
   have z2 := Below.size b2
   (try simp only [World.size_alloc, World.size_setCell, size_drew] at z2)
   have B2 : Below w.heap.size w w2 := Below.t b2
   have xc_ : Box w2 (w.heap.size) #[(.slice cA0 cn0 cc0), (.slice cA1 cn1 cc1)] 27 := (Box.b xc b2)
   clear xc; have xc := xc_; clear xc_
   have xp_ : Box w2 (w.heap.size + 1) #[(.slice pA0 pn0 pc0), (.slice pA1 pn1 pc1), (.slice pA2 pn2 pc2)] 37 := (Box.b xp b2)
   clear xp; have xp := xp_; clear xp_
   refine ⟨_, rfl, ⟨xc.two.1, xc.two.2.1, xp.three.1, xp.three.2.1, xp.three.2.2.1⟩, fun hS => ?_⟩
   (try simp only [Act.put, layA, layB, layC])
   (refine tk 7 hS ?_; (try simp only [Act.put, layA, layB, layC]))
   refine on 8 ?_
   refine callH (by go_simp; (first | done | with_reducible rfl | exact ⟨rfl, rfl⟩)) ?_
   go_at_call 113
   refine (l18Labels_any _ _ _ _ _ _ pL0i.b (by omega)).mono ?_
   rintro e w_ ⟨rfl, rfl⟩
   refine ⟨.bool false, by rw [k2], hS, fun hS => ?_⟩
   (try simp only [Act.put, layA, layB, layC])
   (refine tk 9 hS ?_; (try simp only [Act.put, layA, layB, layC]))
   (refine tk 10 hS ?_; (try simp only [Act.put, layA, layB, layC]))
   (refine ps 11 hS ?_; (try simp only [Act.put, layA, layB, layC]))
   (refine ps 12 hS ?_; (try simp only [Act.put, layA, layB, layC]))
   (refine ps 13 hS ?_; (try simp only [Act.put, layA, layB, layC]))
   (refine ps 14 hS ?_; (try simp only [Act.put, layA, layB, layC]))
   (refine ps 15 hS ?_; (try simp only [Act.put, layA, layB, layC]))
   (refine tk 16 hS ?_; (try simp only [Act.put, layA, layB, layC]))
   (refine tk 17 hS ?_; (try simp only [Act.put, layA, layB, layC]))
   (refine ps 18 hS ?_; (try simp only [Act.put, layA, layB, layC]))
   (refine ps 19 hS ?_; (try simp only [Act.put, layA, layB, layC]))
   (refine ps 20 hS ?_; (try simp only [Act.put, layA, layB, layC]))
   (refine ps 21 hS ?_; (try simp only [Act.put, layA, layB, layC]))
   (refine ps 22 hS ?_; (try simp only [Act.put, layA, layB, layC]))
   (refine ps 23 hS ?_; (try simp only [Act.put, layA, layB, layC]))
   (refine tk 24 hS ?_; (try simp only [Act.put, layA, layB, layC]))
   (refine tk 25 hS ?_; (try simp only [Act.put, layA, layB, layC]))
   clear hS
   refine wpAnyH_done (by kernel_rfl) ?_ _
   go_wp2
   go_ret
   exact ⟨ret_bool (by rw [HE.out, k1, k2]; simp), by repeat (with_reducible (first | assumption | exact Below.refl _ _ | refine Below.alloc ?_ (by first | omega | (simp; done) | (simp; omega)) _ | refine Below.setCell ?_ (by first | omega | (simp; done) | (simp; omega)) _ | refine Below.drew ?_ | refine below_drewN ?_ _))⟩
  | true =>
   cases k3 : labelsOk pL1 ((countG cL0 2 : Nat) : Int) with
   | false =>
    go_enter Try.func63, Try.ntmps63
    go_wp2_with fail
    refine wp_region_held_drew (S := fun W => W.cell? ⟨w.heap.size, 0, none⟩ = some ((.slice cA0 cn0 cc0)) ∧ W.cell? ⟨w.heap.size, 1, none⟩ = some ((.slice cA1 cn1 cc1)) ∧ W.cell? ⟨w.heap.size + 1, 0, none⟩ = some ((.slice pA0 pn0 pc0)) ∧ W.cell? ⟨w.heap.size + 1, 1, none⟩ = some ((.slice pA1 pn1 pc1)) ∧ W.cell? ⟨w.heap.size + 1, 2, none⟩ = some ((.slice pA2 pn2 pc2))) (by kernel_rfl) ⟨((Box.new (g := w.heap.size) _ #[(.slice cA0 cn0 cc0), (.slice cA1 cn1 cc1)] 27 (by simp)).alloc _).drew.two.1, ((Box.new (g := w.heap.size) _ #[(.slice cA0 cn0 cc0), (.slice cA1 cn1 cc1)] 27 (by simp)).alloc _).drew.two.2.1, (Box.new (g := w.heap.size + 1) _ #[(.slice pA0 pn0 pc0), (.slice pA1 pn1 pc1), (.slice pA2 pn2 pc2)] 37 (by simp)).drew.three.1, (Box.new (g := w.heap.size + 1) _ #[(.slice pA0 pn0 pc0), (.slice pA1 pn1 pc1), (.slice pA2 pn2 pc2)] 37 (by simp)).drew.three.2.1, (Box.new (g := w.heap.size + 1) _ #[(.slice pA0 pn0 pc0), (.slice pA1 pn1 pc1), (.slice pA2 pn2 pc2)] 37 (by simp)).drew.three.2.2.1⟩ (fun hS => ?_)
    (refine tk 0 hS ?_; (try simp only [Act.put, layA, layB, layC]))
    refine on 1 ?_
    refine callH (by go_simp; (first | done | with_reducible rfl | exact ⟨rfl, rfl⟩)) ?_
    go_at_call 93
    refine (sCircuitOk_L (RdL.b cH) cL0n cL1n).mono ?_
    rintro e w1 ⟨rfl, b1⟩
    clear hS
    have z1 := Below.size b1
    (try simp only [World.size_alloc, World.size_setCell, size_drew] at z1)
    have B1 : Below w.heap.size w w1 := Below.t b1
    have xc_ : Box w1 (w.heap.size) #[(.slice cA0 cn0 cc0), (.slice cA1 cn1 cc1)] 27 := (Box.b ((Box.new (g := w.heap.size) _ #[(.slice cA0 cn0 cc0), (.slice cA1 cn1 cc1)] 27 (by simp)).alloc _).drew b1)
    have xc := xc_; clear xc_
    have xp_ : Box w1 (w.heap.size + 1) #[(.slice pA0 pn0 pc0), (.slice pA1 pn1 pc1), (.slice pA2 pn2 pc2)] 37 := (Box.b (Box.new (g := w.heap.size + 1) _ #[(.slice pA0 pn0 pc0), (.slice pA1 pn1 pc1), (.slice pA2 pn2 pc2)] 37 (by simp)).drew b1)
    have xp := xp_; clear xp_
    refine ⟨.bool true, by rw [k1], ⟨xc.two.1, xc.two.2.1, xp.three.1, xp.three.2.1, xp.three.2.2.1⟩, fun hS => ?_⟩
    (try simp only [Act.put, layA, layB, layC])
    (refine tk 2 hS ?_; (try simp only [Act.put, layA, layB, layC]))
    (refine tk 3 hS ?_; (try simp only [Act.put, layA, layB, layC]))
    (refine tk 4 hS ?_; (try simp only [Act.put, layA, layB, layC]))
    (refine tk 5 hS ?_; (try simp only [Act.put, layA, layB, layC]))
    refine on 6 ?_
    refine callH (by go_simp; (first | done | with_reducible rfl | exact ⟨rfl, rfl⟩)) ?_
    go_at_call 67
    refine (sCountGates_L (RdL.b cH) cL0n cL1n 4).mono ?_
    rintro e w2 ⟨rfl, b2⟩
    clear hS
    have z2 := Below.size b2
    (try simp only [World.size_alloc, World.size_setCell, size_drew] at z2)
    have B2 : Below w.heap.size w w2 := Below.t b2
    have xc_ : Box w2 (w.heap.size) #[(.slice cA0 cn0 cc0), (.slice cA1 cn1 cc1)] 27 := (Box.b xc b2)
    clear xc; have xc := xc_; clear xc_
    have xp_ : Box w2 (w.heap.size + 1) #[(.slice pA0 pn0 pc0), (.slice pA1 pn1 pc1), (.slice pA2 pn2 pc2)] 37 := (Box.b xp b2)
    clear xp; have xp := xp_; clear xp_
    refine ⟨_, rfl, ⟨xc.two.1, xc.two.2.1, xp.three.1, xp.three.2.1, xp.three.2.2.1⟩, fun hS => ?_⟩
    (try simp only [Act.put, layA, layB, layC])
    (refine tk 7 hS ?_; (try simp only [Act.put, layA, layB, layC]))
    refine on 8 ?_
    refine callH (by go_simp; (first | done | with_reducible rfl | exact ⟨rfl, rfl⟩)) ?_
    go_at_call 113
    refine (l18Labels_any _ _ _ _ _ _ pL0i.b (by omega)).mono ?_
    rintro e w_ ⟨rfl, rfl⟩
    refine ⟨.bool true, by rw [k2], hS, fun hS => ?_⟩
    (try simp only [Act.put, layA, layB, layC])
    (refine tk 9 hS ?_; (try simp only [Act.put, layA, layB, layC]))
    (refine tk 10 hS ?_; (try simp only [Act.put, layA, layB, layC]))
    (refine tk 11 hS ?_; (try simp only [Act.put, layA, layB, layC]))
    (refine tk 12 hS ?_; (try simp only [Act.put, layA, layB, layC]))
    (refine tk 13 hS ?_; (try simp only [Act.put, layA, layB, layC]))
    refine on 14 ?_
    refine callH (by go_simp; (first | done | with_reducible rfl | exact ⟨rfl, rfl⟩)) ?_
    go_at_call 67
    refine (sCountGates_L (RdL.b cH) cL0n cL1n 2).mono ?_
    rintro e w3 ⟨rfl, b3⟩
    clear hS
    have z3 := Below.size b3
    (try simp only [World.size_alloc, World.size_setCell, size_drew] at z3)
    have B3 : Below w.heap.size w w3 := Below.t b3
    have xc_ : Box w3 (w.heap.size) #[(.slice cA0 cn0 cc0), (.slice cA1 cn1 cc1)] 27 := (Box.b xc b3)
    clear xc; have xc := xc_; clear xc_
    have xp_ : Box w3 (w.heap.size + 1) #[(.slice pA0 pn0 pc0), (.slice pA1 pn1 pc1), (.slice pA2 pn2 pc2)] 37 := (Box.b xp b3)
    clear xp; have xp := xp_; clear xp_
    refine ⟨_, rfl, ⟨xc.two.1, xc.two.2.1, xp.three.1, xp.three.2.1, xp.three.2.2.1⟩, fun hS => ?_⟩
    (try simp only [Act.put, layA, layB, layC])
    refine on 15 ?_
    refine callH (by go_simp; (first | done | with_reducible rfl | exact ⟨rfl, rfl⟩)) ?_
    go_at_call 113
    refine (l18Labels_any _ _ _ _ _ _ pL1i.b (by omega)).mono ?_
    rintro e w_ ⟨rfl, rfl⟩
    refine ⟨.bool false, by rw [k3], hS, fun hS => ?_⟩
    (try simp only [Act.put, layA, layB, layC])
    (refine tk 16 hS ?_; (try simp only [Act.put, layA, layB, layC]))
    (refine tk 17 hS ?_; (try simp only [Act.put, layA, layB, layC]))
    (refine ps 18 hS ?_; (try simp only [Act.put, layA, layB, layC]))
    (refine ps 19 hS ?_; (try simp only [Act.put, layA, layB, layC]))
    (refine ps 20 hS ?_; (try simp only [Act.put, layA, layB, layC]))
    (refine ps 21 hS ?_; (try simp only [Act.put, layA, layB, layC]))
    (refine ps 22 hS ?_; (try simp only [Act.put, layA, layB, layC]))
    (refine ps 23 hS ?_; (try simp only [Act.put, layA, layB, layC]))
    (refine tk 24 hS ?_; (try simp only [Act.put, layA, layB, layC]))
    (refine tk 25 hS ?_; (try simp only [Act.put, layA, layB, layC]))
    clear hS
    refine wpAnyH_done (by kernel_rfl) ?_ _
    go_wp2
    go_ret
    exact ⟨ret_bool (by rw [HE.out, k1, k2, k3]; simp), by repeat (with_reducible (first | assumption | exact Below.refl _ _ | refine Below.alloc ?_ (by first | omega | (simp; done) | (simp; omega)) _ | refine Below.setCell ?_ (by first | omega | (simp; done) | (simp; omega)) _ | refine Below.drew ?_ | refine below_drewN ?_ _))⟩
   | true =>
    cases k4 : bitsOk pL2 (cn1 : Int) with
    | false =>
     go_enter Try.func63, Try.ntmps63
     go_wp2_with fail
     refine wp_region_held_drew (S := fun W => W.cell? ⟨w.heap.size, 0, none⟩ = some ((.slice cA0 cn0 cc0)) ∧ W.cell? ⟨w.heap.size, 1, none⟩ = some ((.slice cA1 cn1 cc1)) ∧ W.cell? ⟨w.heap.size + 1, 0, none⟩ = some ((.slice pA0 pn0 pc0)) ∧ W.cell? ⟨w.heap.size + 1, 1, none⟩ = some ((.slice pA1 pn1 pc1)) ∧ W.cell? ⟨w.heap.size + 1, 2, none⟩ = some ((.slice pA2 pn2 pc2))) (by kernel_rfl) ⟨((Box.new (g := w.heap.size) _ #[(.slice cA0 cn0 cc0), (.slice cA1 cn1 cc1)] 27 (by simp)).alloc _).drew.two.1, ((Box.new (g := w.heap.size) _ #[(.slice cA0 cn0 cc0), (.slice cA1 cn1 cc1)] 27 (by simp)).alloc _).drew.two.2.1, (Box.new (g := w.heap.size + 1) _ #[(.slice pA0 pn0 pc0), (.slice pA1 pn1 pc1), (.slice pA2 pn2 pc2)] 37 (by simp)).drew.three.1, (Box.new (g := w.heap.size + 1) _ #[(.slice pA0 pn0 pc0), (.slice pA1 pn1 pc1), (.slice pA2 pn2 pc2)] 37 (by simp)).drew.three.2.1, (Box.new (g := w.heap.size + 1) _ #[(.slice pA0 pn0 pc0), (.slice pA1 pn1 pc1), (.slice pA2 pn2 pc2)] 37 (by simp)).drew.three.2.2.1⟩ (fun hS => ?_)
     (refine tk 0 hS ?_; (try simp only [Act.put, layA, layB, layC]))
     refine on 1 ?_
     refine callH (by go_simp; (first | done | with_reducible rfl | exact ⟨rfl, rfl⟩)) ?_
     go_at_call 93
     refine (sCircuitOk_L (RdL.b cH) cL0n cL1n).mono ?_
     rintro e w1 ⟨rfl, b1⟩
     clear hS
     have z1 := Below.size b1
     (try simp only [World.size_alloc, World.size_setCell, size_drew] at z1)
     have B1 : Below w.heap.size w w1 := Below.t b1
     have xc_ : Box w1 (w.heap.size) #[(.slice cA0 cn0 cc0), (.slice cA1 cn1 cc1)] 27 := (Box.b ((Box.new (g := w.heap.size) _ #[(.slice cA0 cn0 cc0), (.slice cA1 cn1 cc1)] 27 (by simp)).alloc _).drew b1)
     have xc := xc_; clear xc_
     have xp_ : Box w1 (w.heap.size + 1) #[(.slice pA0 pn0 pc0), (.slice pA1 pn1 pc1), (.slice pA2 pn2 pc2)] 37 := (Box.b (Box.new (g := w.heap.size + 1) _ #[(.slice pA0 pn0 pc0), (.slice pA1 pn1 pc1), (.slice pA2 pn2 pc2)] 37 (by simp)).drew b1)
     have xp := xp_; clear xp_
     refine ⟨.bool true, by rw [k1], ⟨xc.two.1, xc.two.2.1, xp.three.1, xp.three.2.1, xp.three.2.2.1⟩, fun hS => ?_⟩
     (try simp only [Act.put, layA, layB, layC])
     (refine tk 2 hS ?_; (try simp only [Act.put, layA, layB, layC]))
     (refine tk 3 hS ?_; (try simp only [Act.put, layA, layB, layC]))
     (refine tk 4 hS ?_; (try simp only [Act.put, layA, layB, layC]))
     (refine tk 5 hS ?_; (try simp only [Act.put, layA, layB, layC]))
     refine on 6 ?_
     refine callH (by go_simp; (first | done | with_reducible rfl | exact ⟨rfl, rfl⟩)) ?_
     go_at_call 67
     refine (sCountGates_L (RdL.b cH) cL0n cL1n 4).mono ?_
     rintro e w2 ⟨rfl, b2⟩
     clear hS
     have z2 := Below.size b2
     (try simp only [World.size_alloc, World.size_setCell, size_drew] at z2)
     have B2 : Below w.heap.size w w2 := Below.t b2
     have xc_ : Box w2 (w.heap.size) #[(.slice cA0 cn0 cc0), (.slice cA1 cn1 cc1)] 27 := (Box.b xc b2)
     clear xc; have xc := xc_; clear xc_
     have xp_ : Box w2 (w.heap.size + 1) #[(.slice pA0 pn0 pc0), (.slice pA1 pn1 pc1), (.slice pA2 pn2 pc2)] 37 := (Box.b xp b2)
     clear xp; have xp := xp_; clear xp_
     refine ⟨_, rfl, ⟨xc.two.1, xc.two.2.1, xp.three.1, xp.three.2.1, xp.three.2.2.1⟩, fun hS => ?_⟩
     (try simp only [Act.put, layA, layB, layC])
     (refine tk 7 hS ?_; (try simp only [Act.put, layA, layB, layC]))
     refine on 8 ?_
     refine callH (by go_simp; (first | done | with_reducible rfl | exact ⟨rfl, rfl⟩)) ?_
     go_at_call 113
     refine (l18Labels_any _ _ _ _ _ _ pL0i.b (by omega)).mono ?_
     rintro e w_ ⟨rfl, rfl⟩
     refine ⟨.bool true, by rw [k2], hS, fun hS => ?_⟩
     (try simp only [Act.put, layA, layB, layC])
     (refine tk 9 hS ?_; (try simp only [Act.put, layA, layB, layC]))
     (refine tk 10 hS ?_; (try simp only [Act.put, layA, layB, layC]))
     (refine tk 11 hS ?_; (try simp only [Act.put, layA, layB, layC]))
     (refine tk 12 hS ?_; (try simp only [Act.put, layA, layB, layC]))
     (refine tk 13 hS ?_; (try simp only [Act.put, layA, layB, layC]))
     refine on 14 ?_
     refine callH (by go_simp; (first | done | with_reducible rfl | exact ⟨rfl, rfl⟩)) ?_
     go_at_call 67
     refine (sCountGates_L (RdL.b cH) cL0n cL1n 2).mono ?_
     rintro e w3 ⟨rfl, b3⟩
     clear hS
     have z3 := Below.size b3
     (try simp only [World.size_alloc, World.size_setCell, size_drew] at z3)
     have B3 : Below w.heap.size w w3 := Below.t b3
     have xc_ : Box w3 (w.heap.size) #[(.slice cA0 cn0 cc0), (.slice cA1 cn1 cc1)] 27 := (Box.b xc b3)
     clear xc; have xc := xc_; clear xc_
     have xp_ : Box w3 (w.heap.size + 1) #[(.slice pA0 pn0 pc0), (.slice pA1 pn1 pc1), (.slice pA2 pn2 pc2)] 37 := (Box.b xp b3)
     clear xp; have xp := xp_; clear xp_
     refine ⟨_, rfl, ⟨xc.two.1, xc.two.2.1, xp.three.1, xp.three.2.1, xp.three.2.2.1⟩, fun hS => ?_⟩
     (try simp only [Act.put, layA, layB, layC])
     refine on 15 ?_
     refine callH (by go_simp; (first | done | with_reducible rfl | exact ⟨rfl, rfl⟩)) ?_
     go_at_call 113
     refine (l18Labels_any _ _ _ _ _ _ pL1i.b (by omega)).mono ?_
     rintro e w_ ⟨rfl, rfl⟩
     refine ⟨.bool true, by rw [k3], hS, fun hS => ?_⟩
     (try simp only [Act.put, layA, layB, layC])
     (refine tk 16 hS ?_; (try simp only [Act.put, layA, layB, layC]))
     (refine tk 17 hS ?_; (try simp only [Act.put, layA, layB, layC]))
     (refine tk 18 hS ?_; (try simp only [Act.put, layA, layB, layC]))
     (refine tk 19 hS ?_; (try simp only [Act.put, layA, layB, layC]))
     (refine tk 20 hS ?_; (try simp only [Act.put, layA, layB, layC]))
     (refine tk 21 hS ?_; (try simp only [Act.put, layA, layB, layC]))
     (refine tk 22 hS ?_; (try simp only [Act.put, layA, layB, layC]))
     refine on 23 ?_
     refine callH (by go_simp; (first | done | with_reducible rfl | exact ⟨rfl, rfl⟩)) ?_
     go_at_call 94
     refine (l13Bits_any _ _ _ _ _ _ pL2i.b (by omega)).mono ?_
     rintro e w_ ⟨rfl, rfl⟩
     refine ⟨.bool false, by rw [k4], hS, fun hS => ?_⟩
     (try simp only [Act.put, layA, layB, layC])
     (refine tk 24 hS ?_; (try simp only [Act.put, layA, layB, layC]))
     (refine tk 25 hS ?_; (try simp only [Act.put, layA, layB, layC]))
     clear hS
     refine wpAnyH_done (by kernel_rfl) ?_ _
     go_wp2
     go_ret
     exact ⟨ret_bool (by rw [HE.out, k1, k2, k3, k4]; simp), by repeat (with_reducible (first | assumption | exact Below.refl _ _ | refine Below.alloc ?_ (by first | omega | (simp; done) | (simp; omega)) _ | refine Below.setCell ?_ (by first | omega | (simp; done) | (simp; omega)) _ | refine Below.drew ?_ | refine below_drewN ?_ _))⟩
    | true =>
     go_enter Try.func63, Try.ntmps63
     go_wp2_with fail
     refine wp_region_held_drew (S := fun W => W.cell? ⟨w.heap.size, 0, none⟩ = some ((.slice cA0 cn0 cc0)) ∧ W.cell? ⟨w.heap.size, 1, none⟩ = some ((.slice cA1 cn1 cc1)) ∧ W.cell? ⟨w.heap.size + 1, 0, none⟩ = some ((.slice pA0 pn0 pc0)) ∧ W.cell? ⟨w.heap.size + 1, 1, none⟩ = some ((.slice pA1 pn1 pc1)) ∧ W.cell? ⟨w.heap.size + 1, 2, none⟩ = some ((.slice pA2 pn2 pc2))) (by kernel_rfl) ⟨((Box.new (g := w.heap.size) _ #[(.slice cA0 cn0 cc0), (.slice cA1 cn1 cc1)] 27 (by simp)).alloc _).drew.two.1, ((Box.new (g := w.heap.size) _ #[(.slice cA0 cn0 cc0), (.slice cA1 cn1 cc1)] 27 (by simp)).alloc _).drew.two.2.1, (Box.new (g := w.heap.size + 1) _ #[(.slice pA0 pn0 pc0), (.slice pA1 pn1 pc1), (.slice pA2 pn2 pc2)] 37 (by simp)).drew.three.1, (Box.new (g := w.heap.size + 1) _ #[(.slice pA0 pn0 pc0), (.slice pA1 pn1 pc1), (.slice pA2 pn2 pc2)] 37 (by simp)).drew.three.2.1, (Box.new (g := w.heap.size + 1) _ #[(.slice pA0 pn0 pc0), (.slice pA1 pn1 pc1), (.slice pA2 pn2 pc2)] 37 (by simp)).drew.three.2.2.1⟩ (fun hS => ?_)
     (refine tk 0 hS ?_; (try simp only [Act.put, layA, layB, layC]))
     refine on 1 ?_
     refine callH (by go_simp; (first | done | with_reducible rfl | exact ⟨rfl, rfl⟩)) ?_
     go_at_call 93
     refine (sCircuitOk_L (RdL.b cH) cL0n cL1n).mono ?_
     rintro e w1 ⟨rfl, b1⟩
     clear hS
     have z1 := Below.size b1
     (try simp only [World.size_alloc, World.size_setCell, size_drew] at z1)
     have B1 : Below w.heap.size w w1 := Below.t b1
     have xc_ : Box w1 (w.heap.size) #[(.slice cA0 cn0 cc0), (.slice cA1 cn1 cc1)] 27 := (Box.b ((Box.new (g := w.heap.size) _ #[(.slice cA0 cn0 cc0), (.slice cA1 cn1 cc1)] 27 (by simp)).alloc _).drew b1)
     have xc := xc_; clear xc_
     have xp_ : Box w1 (w.heap.size + 1) #[(.slice pA0 pn0 pc0), (.slice pA1 pn1 pc1), (.slice pA2 pn2 pc2)] 37 := (Box.b (Box.new (g := w.heap.size + 1) _ #[(.slice pA0 pn0 pc0), (.slice pA1 pn1 pc1), (.slice pA2 pn2 pc2)] 37 (by simp)).drew b1)
     have xp := xp_; clear xp_
     refine ⟨.bool true, by rw [k1], ⟨xc.two.1, xc.two.2.1, xp.three.1, xp.three.2.1, xp.three.2.2.1⟩, fun hS => ?_⟩
     (try simp only [Act.put, layA, layB, layC])
     (refine tk 2 hS ?_; (try simp only [Act.put, layA, layB, layC]))
     (refine tk 3 hS ?_; (try simp only [Act.put, layA, layB, layC]))
     (refine tk 4 hS ?_; (try simp only [Act.put, layA, layB, layC]))
     (refine tk 5 hS ?_; (try simp only [Act.put, layA, layB, layC]))
     refine on 6 ?_
     refine callH (by go_simp; (first | done | with_reducible rfl | exact ⟨rfl, rfl⟩)) ?_
     go_at_call 67
     refine (sCountGates_L (RdL.b cH) cL0n cL1n 4).mono ?_
     rintro e w2 ⟨rfl, b2⟩
     clear hS
     have z2 := Below.size b2
     (try simp only [World.size_alloc, World.size_setCell, size_drew] at z2)
     have B2 : Below w.heap.size w w2 := Below.t b2
     have xc_ : Box w2 (w.heap.size) #[(.slice cA0 cn0 cc0), (.slice cA1 cn1 cc1)] 27 := (Box.b xc b2)
     clear xc; have xc := xc_; clear xc_
     have xp_ : Box w2 (w.heap.size + 1) #[(.slice pA0 pn0 pc0), (.slice pA1 pn1 pc1), (.slice pA2 pn2 pc2)] 37 := (Box.b xp b2)
     clear xp; have xp := xp_; clear xp_
     refine ⟨_, rfl, ⟨xc.two.1, xc.two.2.1, xp.three.1, xp.three.2.1, xp.three.2.2.1⟩, fun hS => ?_⟩
     (try simp only [Act.put, layA, layB, layC])
     (refine tk 7 hS ?_; (try simp only [Act.put, layA, layB, layC]))
     refine on 8 ?_
     refine callH (by go_simp; (first | done | with_reducible rfl | exact ⟨rfl, rfl⟩)) ?_
     go_at_call 113
     refine (l18Labels_any _ _ _ _ _ _ pL0i.b (by omega)).mono ?_
     rintro e w_ ⟨rfl, rfl⟩
     refine ⟨.bool true, by rw [k2], hS, fun hS => ?_⟩
     (try simp only [Act.put, layA, layB, layC])
     (refine tk 9 hS ?_; (try simp only [Act.put, layA, layB, layC]))
     (refine tk 10 hS ?_; (try simp only [Act.put, layA, layB, layC]))
     (refine tk 11 hS ?_; (try simp only [Act.put, layA, layB, layC]))
     (refine tk 12 hS ?_; (try simp only [Act.put, layA, layB, layC]))
     (refine tk 13 hS ?_; (try simp only [Act.put, layA, layB, layC]))
     refine on 14 ?_
     refine callH (by go_simp; (first | done | with_reducible rfl | exact ⟨rfl, rfl⟩)) ?_
     go_at_call 67
     refine (sCountGates_L (RdL.b cH) cL0n cL1n 2).mono ?_
     rintro e w3 ⟨rfl, b3⟩
     clear hS
     have z3 := Below.size b3
     (try simp only [World.size_alloc, World.size_setCell, size_drew] at z3)
     have B3 : Below w.heap.size w w3 := Below.t b3
     have xc_ : Box w3 (w.heap.size) #[(.slice cA0 cn0 cc0), (.slice cA1 cn1 cc1)] 27 := (Box.b xc b3)
     clear xc; have xc := xc_; clear xc_
     have xp_ : Box w3 (w.heap.size + 1) #[(.slice pA0 pn0 pc0), (.slice pA1 pn1 pc1), (.slice pA2 pn2 pc2)] 37 := (Box.b xp b3)
     clear xp; have xp := xp_; clear xp_
     refine ⟨_, rfl, ⟨xc.two.1, xc.two.2.1, xp.three.1, xp.three.2.1, xp.three.2.2.1⟩, fun hS => ?_⟩
     (try simp only [Act.put, layA, layB, layC])
     refine on 15 ?_
     refine callH (by go_simp; (first | done | with_reducible rfl | exact ⟨rfl, rfl⟩)) ?_
     go_at_call 113
     refine (l18Labels_any _ _ _ _ _ _ pL1i.b (by omega)).mono ?_
     rintro e w_ ⟨rfl, rfl⟩
     refine ⟨.bool true, by rw [k3], hS, fun hS => ?_⟩
     (try simp only [Act.put, layA, layB, layC])
     (refine tk 16 hS ?_; (try simp only [Act.put, layA, layB, layC]))
     (refine tk 17 hS ?_; (try simp only [Act.put, layA, layB, layC]))
     (refine tk 18 hS ?_; (try simp only [Act.put, layA, layB, layC]))
     (refine tk 19 hS ?_; (try simp only [Act.put, layA, layB, layC]))
     (refine tk 20 hS ?_; (try simp only [Act.put, layA, layB, layC]))
     (refine tk 21 hS ?_; (try simp only [Act.put, layA, layB, layC]))
     (refine tk 22 hS ?_; (try simp only [Act.put, layA, layB, layC]))
     refine on 23 ?_
     refine callH (by go_simp; (first | done | with_reducible rfl | exact ⟨rfl, rfl⟩)) ?_
     go_at_call 94
     refine (l13Bits_any _ _ _ _ _ _ pL2i.b (by omega)).mono ?_
     rintro e w_ ⟨rfl, rfl⟩
     refine ⟨.bool true, by rw [k4], hS, fun hS => ?_⟩
     (try simp only [Act.put, layA, layB, layC])
     (refine tk 24 hS ?_; (try simp only [Act.put, layA, layB, layC]))
     (refine tk 25 hS ?_; (try simp only [Act.put, layA, layB, layC]))
     clear hS
     refine wpAnyH_done (by kernel_rfl) ?_ _
     go_wp2
     go_ret
     exact ⟨ret_bool (by rw [HE.out, k1, k2, k3, k4]; simp), by repeat (with_reducible (first | assumption | exact Below.refl _ _ | refine Below.alloc ?_ (by first | omega | (simp; done) | (simp; omega)) _ | refine Below.setCell ?_ (by first | omega | (simp; done) | (simp; omega)) _ | refine Below.drew ?_ | refine below_drewN ?_ _))⟩
end Go.Proofs.Ytodnahpegecpiaa

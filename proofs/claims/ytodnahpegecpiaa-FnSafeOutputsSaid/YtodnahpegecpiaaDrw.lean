/- A contract of sameInts on equal lists; members of owned rows. -/
import Derived.Test.YtodnahpegecpiaaDraw2
import Derived.Test.YtodnahpegecpiaaPlaces
import Derived.Test.YtodnahpegecpiaaGMath
import Derived.Test.YtodnahpegecpiaaRaC
import Derived.Test.YtodnahpegecpiaaAppend
import Derived.Test.YtodnahpegecpiaaAuto
import Derived.Lib.AppendZerosOnto
import Derived.Test.YtodnahpegecpiaaEvg
namespace Go.Proofs.Ytodnahpegecpiaa
set_option linter.unusedSimpArgs false
set_option linter.unusedVariables false
open Go.RowKit
/-- A gate that fits its place is drawn. -/
def GateOut (g : Nat) (A : Option Addr) (n c : Nat) (at_ : Nat) (w : World) (e : Ending) (w' : World) : Prop := ∃ k a b : Int, e = .returned (.agg #[.int .i64 k, .int .i64 a, .int .i64 b]) ∧ gateOk k a b (at_ : Int) = true ∧ Cur w' g A n c ∧ Only g w w'
theorem gk1 {y : Nat} {n : Int} (h : y < 20) : gateOk 1 (y : Int) 0 n = true := by rw [gateOk_1, inB_iff.2 ⟨by omega, by omega⟩]; rfl
theorem gk2 {y : Nat} {n : Int} (h : y < 2) : gateOk 2 (y : Int) 0 n = true := by rw [gateOk_2, inB_iff.2 ⟨by omega, by omega⟩]; rfl
theorem gk5 {y n : Nat} (h : y < n) : gateOk 5 (y : Int) 0 (n : Int) = true := by rw [gateOk_5]; simp; omega
theorem gk34 {k : Int} {y z n : Nat} (hk : k = 3 ∨ k = 4) (h : y < n) (h2 : z < n) : gateOk k (y : Int) (z : Int) (n : Int) = true := by rw [gateOk_34 hk]; simp; omega
set_option maxRecDepth 100000 in
set_option maxHeartbeats 4000000 in
theorem l13Gate_any (g n c : Nat) (A : Option Addr) (m : Nat) (w : World) (hC : Cur w g A n c) :
  Calls Try.prog 115 #[.pointer (some ⟨g, 0, none⟩), .int .i64 m] w (GateOut g A n c m w) := by
 have hg := hC.lt
 have hlt : 0 < n → ∀ a, A = some a → a.block ≠ w.heap.size := fun hn a ha => by
  obtain ⟨_, _, _, _, ht, _⟩ := hC
  have := ht.lt hn a ha; omega
 go_enter Try.func115, Try.ntmps115
 go_wp2_with fail
 refine (l01Below_any g n c A 7 _ (hC.alloc _)).mono ?_
 rintro e w1 ⟨x, hx, _, rfl, hC1, ho1⟩
 have hx7 := hx (by omega)
 clear hx
 have hz1 := ho1.size
 simp only [World.size_alloc] at hz1
 have hb1 : Box w1 w.heap.size #[.int .i64 0, .int .i64 0, .int .i64 0] 74 := (Box.new w _ _ rfl).only ho1 (by simp; omega)
 obtain ⟨d0, d1, d2, f0, f1, f2⟩ := hb1.three
 have hl1 : w.heap.size < w1.heap.size := by omega
 by_cases h0 : m = 0
 ·subst h0
  rcases (show x = 0 ∨ x = 1 ∨ x = 2 ∨ x = 3 ∨ x = 4 ∨ x = 5 ∨ x = 6 by omega) with rfl | rfl | rfl | rfl | rfl | rfl | rfl
  ·go_wp2_with fail
   refine (l01Below_any g n c A 20 _ hC1).mono ?_
   rintro e w2 ⟨y, hy, _, rfl, hC2, ho2⟩
   have hyb := hy (by omega)
   clear hy
   have hz2 := ho2.size
   have hb9 : Box w2 w.heap.size #[.int .i64 0, .int .i64 0, .int .i64 0] 74 := hb1.only ho2 (by simp; omega)
   obtain ⟨c0, c1, c2, e0, e1, e2⟩ := hb9.three
   have hl9 : w.heap.size < w2.heap.size := by omega
   go_wp2
   refine bodyPost_ret (v := .agg #[.int .i64 1, .int .i64 (y : Int), .int .i64 0]) (by simp [results, Try.results115, go_sem, c0, c1, c2, e0, e1, e2, hl9]) rfl ⟨1, (y : Int), 0, rfl, gk1 (by omega), ?_, ?_⟩
   ·exact ((hC2.setFar (by omega) hlt).setFar (by omega) hlt).setFar (by omega) hlt
   ·exact ((((Only.alloc w _).trans (ho1.trans ho2)).setNew (Nat.le_refl _)).setNew (Nat.le_refl _)).setNew (Nat.le_refl _)
  ·go_wp2_with fail
   refine (l01Below_any g n c A 2 _ hC1).mono ?_
   rintro e w2 ⟨y, hy, _, rfl, hC2, ho2⟩
   have hyb := hy (by omega)
   clear hy
   have hz2 := ho2.size
   have hb9 : Box w2 w.heap.size #[.int .i64 0, .int .i64 0, .int .i64 0] 74 := hb1.only ho2 (by simp; omega)
   obtain ⟨c0, c1, c2, e0, e1, e2⟩ := hb9.three
   have hl9 : w.heap.size < w2.heap.size := by omega
   go_wp2
   refine bodyPost_ret (v := .agg #[.int .i64 2, .int .i64 (y : Int), .int .i64 0]) (by simp [results, Try.results115, go_sem, c0, c1, c2, e0, e1, e2, hl9]) rfl ⟨2, (y : Int), 0, rfl, gk2 (by omega), ?_, ?_⟩
   ·exact ((hC2.setFar (by omega) hlt).setFar (by omega) hlt).setFar (by omega) hlt
   ·exact ((((Only.alloc w _).trans (ho1.trans ho2)).setNew (Nat.le_refl _)).setNew (Nat.le_refl _)).setNew (Nat.le_refl _)
  ·go_wp2_with fail
   refine (l01Below_any g n c A 20 _ hC1).mono ?_
   rintro e w2 ⟨y, hy, _, rfl, hC2, ho2⟩
   have hyb := hy (by omega)
   clear hy
   have hz2 := ho2.size
   have hb9 : Box w2 w.heap.size #[.int .i64 0, .int .i64 0, .int .i64 0] 74 := hb1.only ho2 (by simp; omega)
   obtain ⟨c0, c1, c2, e0, e1, e2⟩ := hb9.three
   have hl9 : w.heap.size < w2.heap.size := by omega
   go_wp2
   refine bodyPost_ret (v := .agg #[.int .i64 1, .int .i64 (y : Int), .int .i64 0]) (by simp [results, Try.results115, go_sem, c0, c1, c2, e0, e1, e2, hl9]) rfl ⟨1, (y : Int), 0, rfl, gk1 (by omega), ?_, ?_⟩
   ·exact ((hC2.setFar (by omega) hlt).setFar (by omega) hlt).setFar (by omega) hlt
   ·exact ((((Only.alloc w _).trans (ho1.trans ho2)).setNew (Nat.le_refl _)).setNew (Nat.le_refl _)).setNew (Nat.le_refl _)
  ·go_wp2_with fail
   refine (l01Below_any g n c A 20 _ hC1).mono ?_
   rintro e w2 ⟨y, hy, _, rfl, hC2, ho2⟩
   have hyb := hy (by omega)
   clear hy
   have hz2 := ho2.size
   have hb9 : Box w2 w.heap.size #[.int .i64 0, .int .i64 0, .int .i64 0] 74 := hb1.only ho2 (by simp; omega)
   obtain ⟨c0, c1, c2, e0, e1, e2⟩ := hb9.three
   have hl9 : w.heap.size < w2.heap.size := by omega
   go_wp2
   refine bodyPost_ret (v := .agg #[.int .i64 1, .int .i64 (y : Int), .int .i64 0]) (by simp [results, Try.results115, go_sem, c0, c1, c2, e0, e1, e2, hl9]) rfl ⟨1, (y : Int), 0, rfl, gk1 (by omega), ?_, ?_⟩
   ·exact ((hC2.setFar (by omega) hlt).setFar (by omega) hlt).setFar (by omega) hlt
   ·exact ((((Only.alloc w _).trans (ho1.trans ho2)).setNew (Nat.le_refl _)).setNew (Nat.le_refl _)).setNew (Nat.le_refl _)
  ·go_wp2_with fail
   refine (l01Below_any g n c A 20 _ hC1).mono ?_
   rintro e w2 ⟨y, hy, _, rfl, hC2, ho2⟩
   have hyb := hy (by omega)
   clear hy
   have hz2 := ho2.size
   have hb9 : Box w2 w.heap.size #[.int .i64 0, .int .i64 0, .int .i64 0] 74 := hb1.only ho2 (by simp; omega)
   obtain ⟨c0, c1, c2, e0, e1, e2⟩ := hb9.three
   have hl9 : w.heap.size < w2.heap.size := by omega
   go_wp2
   refine bodyPost_ret (v := .agg #[.int .i64 1, .int .i64 (y : Int), .int .i64 0]) (by simp [results, Try.results115, go_sem, c0, c1, c2, e0, e1, e2, hl9]) rfl ⟨1, (y : Int), 0, rfl, gk1 (by omega), ?_, ?_⟩
   ·exact ((hC2.setFar (by omega) hlt).setFar (by omega) hlt).setFar (by omega) hlt
   ·exact ((((Only.alloc w _).trans (ho1.trans ho2)).setNew (Nat.le_refl _)).setNew (Nat.le_refl _)).setNew (Nat.le_refl _)
  ·go_wp2_with fail
   refine (l01Below_any g n c A 20 _ hC1).mono ?_
   rintro e w2 ⟨y, hy, _, rfl, hC2, ho2⟩
   have hyb := hy (by omega)
   clear hy
   have hz2 := ho2.size
   have hb9 : Box w2 w.heap.size #[.int .i64 0, .int .i64 0, .int .i64 0] 74 := hb1.only ho2 (by simp; omega)
   obtain ⟨c0, c1, c2, e0, e1, e2⟩ := hb9.three
   have hl9 : w.heap.size < w2.heap.size := by omega
   go_wp2
   refine bodyPost_ret (v := .agg #[.int .i64 1, .int .i64 (y : Int), .int .i64 0]) (by simp [results, Try.results115, go_sem, c0, c1, c2, e0, e1, e2, hl9]) rfl ⟨1, (y : Int), 0, rfl, gk1 (by omega), ?_, ?_⟩
   ·exact ((hC2.setFar (by omega) hlt).setFar (by omega) hlt).setFar (by omega) hlt
   ·exact ((((Only.alloc w _).trans (ho1.trans ho2)).setNew (Nat.le_refl _)).setNew (Nat.le_refl _)).setNew (Nat.le_refl _)
  ·go_wp2_with fail
   refine (l01Below_any g n c A 20 _ hC1).mono ?_
   rintro e w2 ⟨y, hy, _, rfl, hC2, ho2⟩
   have hyb := hy (by omega)
   clear hy
   have hz2 := ho2.size
   have hb9 : Box w2 w.heap.size #[.int .i64 0, .int .i64 0, .int .i64 0] 74 := hb1.only ho2 (by simp; omega)
   obtain ⟨c0, c1, c2, e0, e1, e2⟩ := hb9.three
   have hl9 : w.heap.size < w2.heap.size := by omega
   go_wp2
   refine bodyPost_ret (v := .agg #[.int .i64 1, .int .i64 (y : Int), .int .i64 0]) (by simp [results, Try.results115, go_sem, c0, c1, c2, e0, e1, e2, hl9]) rfl ⟨1, (y : Int), 0, rfl, gk1 (by omega), ?_, ?_⟩
   ·exact ((hC2.setFar (by omega) hlt).setFar (by omega) hlt).setFar (by omega) hlt
   ·exact ((((Only.alloc w _).trans (ho1.trans ho2)).setNew (Nat.le_refl _)).setNew (Nat.le_refl _)).setNew (Nat.le_refl _)
 ·have h0b : ((m : Int) == 0) = false := by simp; omega
  have h0c : 0 < m := by omega
  rcases (show x = 0 ∨ x = 1 ∨ x = 2 ∨ x = 3 ∨ x = 4 ∨ x = 5 ∨ x = 6 by omega) with rfl | rfl | rfl | rfl | rfl | rfl | rfl
  ·go_wp2_with fail
   refine (l01Below_any g n c A 20 _ hC1).mono ?_
   rintro e w2 ⟨y, hy, _, rfl, hC2, ho2⟩
   have hyb := hy (by omega)
   clear hy
   have hz2 := ho2.size
   have hb9 : Box w2 w.heap.size #[.int .i64 0, .int .i64 0, .int .i64 0] 74 := hb1.only ho2 (by simp; omega)
   obtain ⟨c0, c1, c2, e0, e1, e2⟩ := hb9.three
   have hl9 : w.heap.size < w2.heap.size := by omega
   go_wp2
   refine bodyPost_ret (v := .agg #[.int .i64 1, .int .i64 (y : Int), .int .i64 0]) (by simp [results, Try.results115, go_sem, c0, c1, c2, e0, e1, e2, hl9]) rfl ⟨1, (y : Int), 0, rfl, gk1 (by omega), ?_, ?_⟩
   ·exact ((hC2.setFar (by omega) hlt).setFar (by omega) hlt).setFar (by omega) hlt
   ·exact ((((Only.alloc w _).trans (ho1.trans ho2)).setNew (Nat.le_refl _)).setNew (Nat.le_refl _)).setNew (Nat.le_refl _)
  ·go_wp2_with fail
   refine (l01Below_any g n c A 2 _ hC1).mono ?_
   rintro e w2 ⟨y, hy, _, rfl, hC2, ho2⟩
   have hyb := hy (by omega)
   clear hy
   have hz2 := ho2.size
   have hb9 : Box w2 w.heap.size #[.int .i64 0, .int .i64 0, .int .i64 0] 74 := hb1.only ho2 (by simp; omega)
   obtain ⟨c0, c1, c2, e0, e1, e2⟩ := hb9.three
   have hl9 : w.heap.size < w2.heap.size := by omega
   go_wp2
   refine bodyPost_ret (v := .agg #[.int .i64 2, .int .i64 (y : Int), .int .i64 0]) (by simp [results, Try.results115, go_sem, c0, c1, c2, e0, e1, e2, hl9]) rfl ⟨2, (y : Int), 0, rfl, gk2 (by omega), ?_, ?_⟩
   ·exact ((hC2.setFar (by omega) hlt).setFar (by omega) hlt).setFar (by omega) hlt
   ·exact ((((Only.alloc w _).trans (ho1.trans ho2)).setNew (Nat.le_refl _)).setNew (Nat.le_refl _)).setNew (Nat.le_refl _)
  ·go_wp2_with fail
   refine (l01Below_any g n c A (m : Int) _ hC1).mono ?_
   rintro e w2 ⟨y, hy, _, rfl, hC2, ho2⟩
   have hyb := hy (by omega)
   clear hy
   have hz2 := ho2.size
   go_wp2_with fail
   refine (l01Below_any g n c A (m : Int) _ hC2).mono ?_
   rintro e w3 ⟨z, hz, _, rfl, hC3, ho3⟩
   have hzb := hz (by omega)
   clear hz
   have hz3 := ho3.size
   have hb9 : Box w3 w.heap.size #[.int .i64 0, .int .i64 0, .int .i64 0] 74 := (hb1.only ho2 (by simp; omega)).only ho3 (by simp; omega)
   obtain ⟨c0, c1, c2, e0, e1, e2⟩ := hb9.three
   have hl9 : w.heap.size < w3.heap.size := by omega
   go_wp2
   refine bodyPost_ret (v := .agg #[.int .i64 3, .int .i64 (y : Int), .int .i64 (z : Int)]) (by simp [results, Try.results115, go_sem, c0, c1, c2, e0, e1, e2, hl9]) rfl ⟨3, (y : Int), (z : Int), rfl, gk34 (by decide) (by omega) (by omega), ?_, ?_⟩
   ·exact ((hC3.setFar (by omega) hlt).setFar (by omega) hlt).setFar (by omega) hlt
   ·exact ((((Only.alloc w _).trans (ho1.trans (ho2.trans ho3))).setNew (Nat.le_refl _)).setNew (Nat.le_refl _)).setNew (Nat.le_refl _)
  ·go_wp2_with fail
   refine (l01Below_any g n c A (m : Int) _ hC1).mono ?_
   rintro e w2 ⟨y, hy, _, rfl, hC2, ho2⟩
   have hyb := hy (by omega)
   clear hy
   have hz2 := ho2.size
   go_wp2_with fail
   refine (l01Below_any g n c A (m : Int) _ hC2).mono ?_
   rintro e w3 ⟨z, hz, _, rfl, hC3, ho3⟩
   have hzb := hz (by omega)
   clear hz
   have hz3 := ho3.size
   have hb9 : Box w3 w.heap.size #[.int .i64 0, .int .i64 0, .int .i64 0] 74 := (hb1.only ho2 (by simp; omega)).only ho3 (by simp; omega)
   obtain ⟨c0, c1, c2, e0, e1, e2⟩ := hb9.three
   have hl9 : w.heap.size < w3.heap.size := by omega
   go_wp2
   refine bodyPost_ret (v := .agg #[.int .i64 4, .int .i64 (y : Int), .int .i64 (z : Int)]) (by simp [results, Try.results115, go_sem, c0, c1, c2, e0, e1, e2, hl9]) rfl ⟨4, (y : Int), (z : Int), rfl, gk34 (by decide) (by omega) (by omega), ?_, ?_⟩
   ·exact ((hC3.setFar (by omega) hlt).setFar (by omega) hlt).setFar (by omega) hlt
   ·exact ((((Only.alloc w _).trans (ho1.trans (ho2.trans ho3))).setNew (Nat.le_refl _)).setNew (Nat.le_refl _)).setNew (Nat.le_refl _)
  ·go_wp2_with fail
   refine (l01Below_any g n c A (m : Int) _ hC1).mono ?_
   rintro e w2 ⟨y, hy, _, rfl, hC2, ho2⟩
   have hyb := hy (by omega)
   clear hy
   have hz2 := ho2.size
   have hb9 : Box w2 w.heap.size #[.int .i64 0, .int .i64 0, .int .i64 0] 74 := hb1.only ho2 (by simp; omega)
   obtain ⟨c0, c1, c2, e0, e1, e2⟩ := hb9.three
   have hl9 : w.heap.size < w2.heap.size := by omega
   go_wp2
   refine bodyPost_ret (v := .agg #[.int .i64 5, .int .i64 (y : Int), .int .i64 0]) (by simp [results, Try.results115, go_sem, c0, c1, c2, e0, e1, e2, hl9]) rfl ⟨5, (y : Int), 0, rfl, gk5 (by omega), ?_, ?_⟩
   ·exact ((hC2.setFar (by omega) hlt).setFar (by omega) hlt).setFar (by omega) hlt
   ·exact ((((Only.alloc w _).trans (ho1.trans ho2)).setNew (Nat.le_refl _)).setNew (Nat.le_refl _)).setNew (Nat.le_refl _)
  ·go_wp2_with fail
   refine (l01Below_any g n c A 20 _ hC1).mono ?_
   rintro e w2 ⟨y, hy, _, rfl, hC2, ho2⟩
   have hyb := hy (by omega)
   clear hy
   have hz2 := ho2.size
   have hb9 : Box w2 w.heap.size #[.int .i64 0, .int .i64 0, .int .i64 0] 74 := hb1.only ho2 (by simp; omega)
   obtain ⟨c0, c1, c2, e0, e1, e2⟩ := hb9.three
   have hl9 : w.heap.size < w2.heap.size := by omega
   go_wp2
   refine bodyPost_ret (v := .agg #[.int .i64 1, .int .i64 (y : Int), .int .i64 0]) (by simp [results, Try.results115, go_sem, c0, c1, c2, e0, e1, e2, hl9]) rfl ⟨1, (y : Int), 0, rfl, gk1 (by omega), ?_, ?_⟩
   ·exact ((hC2.setFar (by omega) hlt).setFar (by omega) hlt).setFar (by omega) hlt
   ·exact ((((Only.alloc w _).trans (ho1.trans ho2)).setNew (Nat.le_refl _)).setNew (Nat.le_refl _)).setNew (Nat.le_refl _)
  ·go_wp2_with fail
   refine (l01Below_any g n c A (m : Int) _ hC1).mono ?_
   rintro e w2 ⟨y, hy, _, rfl, hC2, ho2⟩
   have hyb := hy (by omega)
   clear hy
   have hz2 := ho2.size
   go_wp2_with fail
   refine (l01Below_any g n c A (m : Int) _ hC2).mono ?_
   rintro e w3 ⟨z, hz, _, rfl, hC3, ho3⟩
   have hzb := hz (by omega)
   clear hz
   have hz3 := ho3.size
   have hb9 : Box w3 w.heap.size #[.int .i64 0, .int .i64 0, .int .i64 0] 74 := (hb1.only ho2 (by simp; omega)).only ho3 (by simp; omega)
   obtain ⟨c0, c1, c2, e0, e1, e2⟩ := hb9.three
   have hl9 : w.heap.size < w3.heap.size := by omega
   go_wp2
   refine bodyPost_ret (v := .agg #[.int .i64 4, .int .i64 (y : Int), .int .i64 (z : Int)]) (by simp [results, Try.results115, go_sem, c0, c1, c2, e0, e1, e2, hl9]) rfl ⟨4, (y : Int), (z : Int), rfl, gk34 (by decide) (by omega) (by omega), ?_, ?_⟩
   ·exact ((hC3.setFar (by omega) hlt).setFar (by omega) hlt).setFar (by omega) hlt
   ·exact ((((Only.alloc w _).trans (ho1.trans (ho2.trans ho3))).setNew (Nat.le_refl _)).setNew (Nat.le_refl _)).setNew (Nat.le_refl _)
end Go.Proofs.Ytodnahpegecpiaa
namespace Go.Proofs.Ytodnahpegecpiaa
set_option linter.unusedSimpArgs false
set_option linter.unusedVariables false
open Go.RowKit
theorem gcells_app (l m : List (Int × Int × Int)) : gcells (l ++ m) = gcells l ++ gcells m := by simp [gcells]
theorem run_append_gate {w : World} {base ty b : Nat} {v : Value} {l : List (Int × Int × Int)} {k x y : Int} (hown : OwnD w base v (.gates l)) (hb : Box w b #[.int .i64 k, .int .i64 x, .int .i64 y] 74) (hlen : l.length ≤ 1048576) (hbase : base ≤ w.heap.size) :
  ∃ v' w', (Builtin.append_ #[24, 24] ty #[v, .slice (some ⟨b, 0, none⟩) 1 1]).run Try.prog w = .ok v' w' ∧ OwnD w' base v' (.gates (l ++ [(k, x, y)])) ∧ w.grownBy w' v.ownBlock ∧ (v'.ownBlock = v.ownBlock ∨ v'.ownBlock = some w.heap.size) := by
 obtain ⟨i0, hi, hz0, hz1, hz2⟩ := info_parts gate_info
 obtain ⟨c0, c1, c2, _, _, _⟩ := hb.three
 obtain ⟨v', w', h1, h2, h3, _, h5⟩ := run_append_own_at (P := Try.prog) w base 24 ty 74 i0 (.agg #[.int .i64 0, .int .i64 0, .int .i64 0]) 3 24 Try.underlying24 hi hz0 hz1 hz2 rfl (by decide) v l.length (gcells l) hown ⟨b, 0, none⟩ 1 1 [.int .i64 k, .int .i64 x, .int .i64 y] rfl
  (fun j u hu => by
   match j, hu with
   | 0, hu => simp at hu; subst hu; rw [Addr.add_lit]; exact c0
   | 1, hu => simp at hu; subst hu; rw [Addr.add_lit]; exact c1
   | 2, hu => simp at hu; subst hu; rw [Addr.add_lit]; exact c2)
  (by intro u hu; simp at hu; rcases hu with rfl | rfl | rfl <;> rfl) (by unfold maxLen; omega) (by omega) hbase
 refine ⟨v', w', h1, ?_, h3, h5⟩
 unfold OwnD
 show World.ownsRow w' base 74 3 v' (l ++ [(k, x, y)]).length (gcells (l ++ [(k, x, y)]))
 rw [List.length_append, gcells_app]
 exact h2
theorem appendH_G {ops : Array Oper} {Q : Exit → Act → World → Prop} {md : Region.Mode} {S : World → Prop} {i : Nat} {oi : Oper} {fuel : Nat} {listed : Array Bool} {a : Act} {w : World} (s x : Operand)
  (ho : oi.op = .call { callee := .builtin .append, args := #[s, x], argTypes := #[24, 24] })
  {lo hi b : Nat} {v : Value} {l : List (Int × Int × Int)} {k p q : Int} (hs : a.eval s = v) (r : OwnL w lo hi [(v, .gates l)]) (hx : a.eval x = .slice (some ⟨b, 0, none⟩) 1 1) (hb : Box w b #[.int .i64 k, .int .i64 p, .int .i64 q] 74) (hlen : l.length ≤ 1048576)
  (h : ∀ A' n' c' lo' hi' w', OwnL w' lo' hi' [(.slice A' n' c', .gates (l ++ [(k, p, q)]))] → ((lo' = lo ∧ hi' = hi) ∨ (lo' = w.heap.size ∧ hi' = w'.heap.size)) → Chg lo hi w w' →
   S w' ∧ (S w' → wpAnyH Try.prog md ops Q S fuel (listed.setIfInBounds i true) (a.put oi.dst (.slice A' n' c')) w')) :
  StepH Try.prog md ops Q S fuel listed i oi a w := by
 have hown : OwnD w lo v (.gates l) := r.get (p := (v, .gates l)) (by simp)
 have hr1 := r.1
 have hr2 := r.2.1
 obtain ⟨v', w', hrun, hD, hg, hbk⟩ := run_append_gate (ty := oi.type) hown hb hlen (by omega)
 have hc : Chg lo hi w w' := OwnL.chg (pre := []) (post := []) r hg
 have hsz := hc.size
 obtain ⟨A', n', c', rfl⟩ := hD.form
 have key : S w' ∧ (S w' → wpAnyH Try.prog md ops Q S fuel (listed.setIfInBounds i true) (a.put oi.dst (.slice A' n' c')) w') := by
  rcases hbk with hb | hb
  ·refine h A' n' c' lo hi w' ⟨hr1, by omega, fun p hp => ?_, List.pairwise_singleton _ _⟩ (.inl ⟨rfl, rfl⟩) hc
   simp at hp; subst hp
   exact ⟨hD, fun k hk => (r.2.2.1 (v, .gates l) (by simp)).2 k (by rw [← hb]; exact hk)⟩
  ·refine h A' n' c' w.heap.size w'.heap.size w' ⟨hsz, Nat.le_refl _, fun p hp => ?_, List.pairwise_singleton _ _⟩ (.inr ⟨rfl, rfl⟩) hc
   simp at hp; subst hp
   refine ⟨⟨hD.1, ?_⟩, fun k hk => (hD.lt k hk).2⟩
   rcases hD.2 with ⟨e, _⟩ | ⟨g, cap, cur, e, _, rest⟩
   ·rw [e] at hb; cases hb
   ·rw [e] at hb ⊢
    have : g = w.heap.size := by simpa [Value.ownBlock] using hb
    exact .inr ⟨g, cap, cur, rfl, by omega, rest⟩
 unfold StepH Oper.wp execOp
 simp only [ho, resolve, invoke, builtin, Sem.run_bind, Sem.run_pure, Result.andThen_ok, List.map_toArray, List.map_cons, List.map_nil, hs, hx, hrun]
 exact ⟨key.1, key.2 key.1⟩
/-- What a cursor's call changes. -/
theorem Only.chg {g : Nat} {w w' : World} (h : Only g w w') : Chg g (g + 1) w w' := ⟨h.os, h.tape, h.output, h.size, fun k hk hne => h.block k hk (fun e => by simp at e; omega)⟩
theorem Only.chg2 {g lo hi : Nat} {w w1 w2 : World} (h : Only g w w1) (c : Chg lo hi w1 w2) (hl : w.heap.size ≤ lo) : Only g w w2 :=
 ⟨c.os.trans h.os, c.tape.trans h.tape, c.output.trans h.output, Nat.le_trans h.size c.size, fun k hk hne => (c.block k (Nat.lt_of_lt_of_le hk h.size) (by omega)).trans (h.block k hk hne)⟩
theorem Cur.chg {w w' : World} {g n c lo hi B : Nat} {A : Option Addr} (h : Cur w g A n c) (hc : Chg lo hi w w') (hB : B ≤ lo) (hs : B ≤ w.heap.size) (hg : g < B) (hA : 0 < n → ∀ a, A = some a → a.block < B) : Cur w' g A n c := h.belowB (hc.below hB hs) hg hA
theorem zeroCells_one (z : Value) (n : Nat) : Builtin.zeroCells #[z] n = (List.replicate n z).toArray := by
 apply Array.ext'
 have := toList_madeCells_one z n
 simpa [Builtin.zeroCells, madeCells] using this
theorem run_append_zeros {w : World} {base ty : Nat} {v : Value} {l : List Int} (hown : Own w base v l) (hl0 : 0 < l.length) (k : Nat) (hk0 : 0 < k) (hk : k ≤ 1000) (hl : l.length ≤ 1000) (hbase : base ≤ w.heap.size) :
  ∃ v' w', (Builtin.append_ #[25, 3] ty #[v, .int .i64 k]).run Try.prog w = .ok v' w' ∧ Own w' base v' (l ++ List.replicate k 0) ∧ w.grownBy w' v.ownBlock := by
 obtain ⟨i0, hi, hz0, hz1, hz2⟩ := info_parts int_info
 obtain ⟨_, ho⟩ := id hown
 rcases ho with ⟨_, h0⟩ | ⟨g, cap, cur, rfl, hbg, hg, hnc, hcm, hcs, htake⟩
 ·omega
 have hcs' : cur.size = cap := by simpa using hcs
 have hlen : (l ++ List.replicate k 0).length = l.length + k := by simp
 have hmap : (l ++ List.replicate k (0 : Int)).map (Value.int .i64) = l.map (Value.int .i64) ++ List.replicate k (.int .i64 0) := by simp
 by_cases hroom : l.length + k ≤ cap
 ·have hw : IntKind.i64.wrap (k : Int) = k := by rw [IntKind.wrap_i64]; omega
  have hst := run_storeCells_at Try.prog g l.length 3 (List.replicate k (.int .i64 0)) 0 cur w hg (by simp; omega) (by intro u hu; rw [List.mem_replicate] at hu; rw [hu.2]; rfl)
  simp only [Nat.add_zero] at hst
  have h48i : ¬ (281474976710656 < (k : Int) * 8) := by omega
  have hneg : ¬ ((k : Int) < 0) := by omega
  have hk2 : k ≠ 0 := by omega
  have hzc : (Value.int IntKind.i64 0).cells = #[Value.int IntKind.i64 0] := rfl
  have hr : (Builtin.append_ #[25, 3] ty #[.slice (some ⟨g, 0, none⟩) l.length cap, .int .i64 k]).run Try.prog w = .ok (.slice (some ⟨g, 0, none⟩) (l.length + k) cap) (w.setRow g (cur.toList.take l.length ++ List.replicate k (Value.int .i64 0) ++ cur.toList.drop (l.length + (List.replicate k (Value.int .i64 0)).length)).toArray) := by
   simp [Builtin.append_, run_underlying Try.underlying25, run_underlying Try.underlying3, sizeOf, typeInfo, zeroValue, hi, hz0, hz1, hz2, asInt, asIntOf, hw, hneg, h48i, hroom, hk2, hzc, zeroCells_one, Addr.add_lit] at hst ⊢
   rw [hst]; rfl
  refine ⟨_, _, hr, ⟨by rw [List.length_map, hlen]; omega, .inr ⟨g, cap, _, by rw [hlen], hbg, setRow_heap w g cur _ 3 _ hg, by rw [hlen]; exact hroom, hcm, ?_, ?_⟩⟩, ⟨rfl, rfl, rfl, by simp, fun j _ hj => setRow_other w g j _ (fun e => hj (by simp [Value.ownBlock, e]))⟩⟩
  ·simp only [List.size_toArray, List.length_append, List.length_take, List.length_drop, Array.length_toList, List.length_replicate]; omega
  ·rw [hlen, hmap, Nat.mul_one]
   have h2 : cur.toList.take l.length = l.map (Value.int .i64) := by simpa using htake
   rw [h2]
   rw [List.append_assoc, ← List.append_assoc]
   exact List.take_left' (by simp)
 ·have hcells := World.ownsRow.cells (g := g) hown rfl
  have hzc : (Value.int IntKind.i64 0).cells = #[Value.int IntKind.i64 0] := rfl
  have hold := run_firstCells_some (P := Try.prog) w.drew i0.size l.length ⟨g, 0, none⟩ l.length cap (l.map (Value.int .i64)) (by rw [hz1]; simp) (fun j u hu => hcells j u hu)
  have hr := Lib.run_append_grow_zeros (P := Try.prog) w 25 3 ty 3 i0 (.int .i64 0) .i64 .i64 Try.underlying25 Try.underlying3 hi hz0 (some ⟨g, 0, none⟩) l.length cap (l.map (Value.int .i64)) hold k hk0 (by rw [hz1]; omega) (by omega) (by omega) (by rw [hz2]; omega) (by rw [hz2]; have := nextslicecap_le (show cap < l.length + k by omega); omega)
  have hge := grownCap_ge w (l.length + k) cap 3
  have hcm2 := grownCap_le_maxLen w (l.length + k) cap 3 (by unfold maxLen; omega)
  refine ⟨_, _, hr, ⟨by rw [List.length_map, hlen]; omega, .inr ⟨w.heap.size, _, _, by rw [hlen], hbase, heap_alloc_new w.drew _, by rw [hlen]; exact hge, hcm2, ?_, ?_⟩⟩, ⟨rfl, rfl, rfl, by simp, fun j hj _ => Below.heap_alloc w.drew _ j hj⟩⟩
  ·simp only [hzc, zeroCells_one, Array.size_append, List.size_toArray, List.length_map, List.length_replicate]; omega
  ·simp only [hzc, zeroCells_one, Array.toList_append, hlen, hmap, Nat.mul_one]
   exact List.take_left' (by simp)
end Go.Proofs.Ytodnahpegecpiaa
namespace Go.Proofs.Ytodnahpegecpiaa
set_option linter.unusedSimpArgs false
set_option linter.unusedVariables false
open Go.RowKit
theorem Only.drew (g : Nat) (w : World) : Only g w w.drew := ⟨rfl, rfl, rfl, Nat.le_refl _, fun _ _ _ => rfl⟩
theorem Cur.drew {w : World} {g n c : Nat} {A : Option Addr} (h : Cur w g A n c) : Cur w.drew g A n c := h
theorem Cur.addr {w : World} {g n c : Nat} {A : Option Addr} (h : Cur w g A n c) : 0 < n → ∀ a, A = some a → a.block < w.heap.size := by
 obtain ⟨_, _, _, _, ht, _⟩ := h; exact fun hn a ha => ht.lt hn a ha
theorem OwnL.noneG (w : World) : OwnL w w.heap.size w.heap.size [(.slice none 0 0, .gates [])] :=
 ⟨Nat.le_refl _, Nat.le_refl _, fun p hp => by simp at hp; subst hp; exact ⟨World.ownsRow_nil _ _ _ _, fun k hk => by cases hk⟩, List.pairwise_singleton _ _⟩
theorem append_Z {w : World} {ops : Array Oper} {rest : List Oper} {o : Oper} {a : Act} {Q : Exit → Act → World → Prop} (hgd : o.guard = none) (s x : Operand)
  (ho : o.op = .call { callee := .builtin .append, args := #[s, x], argTypes := #[25, 3] })
  (base : Nat) (v : Value) (l : List Int) (k : Nat) (hs : a.eval s = v) (hx : a.eval x = .int .i64 k) (hown : Own w base v l) (hl0 : 0 < l.length) (hk0 : 0 < k) (hk : k ≤ 1000) (hl : l.length ≤ 1000) (hbase : base ≤ w.heap.size)
  (h : ∀ v' w', Own w' base v' (l ++ List.replicate k 0) → w.grownBy w' v.ownBlock → wpList Try.prog ops Q rest (a.put o.dst v') w') :
  wpList Try.prog ops Q (o :: rest) a w := by
 refine wpList_plain hgd fun _ hK => ?_
 obtain ⟨v', w', hrun, h2, h3⟩ := run_append_zeros (ty := o.type) hown hl0 k hk0 hk hl hbase
 unfold Oper.wp execOp
 simp only [ho, resolve, invoke, builtin, Sem.run_bind, Sem.run_pure, Result.andThen_ok, List.map_toArray, List.map_cons, List.map_nil, hs, hx, hrun]
 exact hK _ _ (h v' w' h2 h3)
def InputOut (g : Nat) (A : Option Addr) (n c : Nat) (w : World) (e : Ending) (w' : World) : Prop := ∃ (B : Option Addr) (m d : Nat) (l : List Int), e = .returned (.slice B m d) ∧ OwnL w' w.heap.size w'.heap.size [(.slice B m d, .ints l)] ∧ l.length = 80 ∧ allBit l = true ∧ Cur w' g A n c ∧ Only g w w'
set_option maxRecDepth 100000 in
theorem l13Input_any (g n c : Nat) (A : Option Addr) (w : World) (hC : Cur w g A n c) :
  Calls Try.prog 84 #[.pointer (some ⟨g, 0, none⟩)] w (InputOut g A n c w) := by
 have hg := hC.lt
 have hA := hC.addr
 go_enter Try.func84, Try.ntmps84
 go_wp2_with fail
 go_loopw [3, 4] (fun v i wr => ∃ (k : Nat) (l : List Int), k ≤ 20 ∧ i = .int .i64 k ∧ l.length = k ∧ allBit l = true ∧ Own wr w.heap.size v l ∧ Cur wr g A n c ∧ Only g w wr) (fun _ i _ => 20 - (intOf i).toNat)
 case atStart => exact ⟨0, [], by omega, rfl, rfl, rfl, World.ownsRow_made w #[] 0 (Nat.le_refl _) (by unfold maxLen; omega) rfl, hC.alloc _, Only.alloc _ _⟩
 case round =>
  obtain ⟨k, l, hk, rfl, hl, hall, hown, hCr, hon⟩ := hrel
  have hzr := hon.size
  by_cases hlt : k < 20
  ·have HA := Lib.hid hall
   have HL := Lib.hid hl
   clear hall hl
   go_wp2_with fail
   refine (l01Below_any g n c A 2 _ hCr).mono ?_
   rintro e w2 ⟨x, hx, _, rfl, hC2, ho2⟩
   have hx' := hx (by omega)
   have hown2 := hown.only hg ho2
   have hz2 := ho2.size
   go_wp2_with (at_builtin; go_must (refine append_int rfl _ _ rfl w.heap.size u3 l x w2.heap.size rfl rfl hown2 rfl (by rw [HL.out]; omega) (by omega) ?_); intro v' w3 hown3 hg3)
   have hB3 := hown2.belowBase (by omega) hg3
   have hC3 := hC2.belowB hB3 hg hA
   have hl := HL.out
   have hall := HA.out
   have hon3 : Only g w w3 := ⟨hg3.os.trans (ho2.os.trans hon.os), hg3.tape.trans (ho2.tape.trans hon.tape), hg3.output.trans (ho2.output.trans hon.output), by have := hB3.size; have := hg3.size; omega, fun j hj hne => (hB3.block j hj).trans ((ho2.block j (by omega) hne).trans (hon.block j hj hne))⟩
   have hall3 : allBit (l ++ [(x : Int)]) = true := by
    have hb : bitB (x : Int) = true := inB_iff.2 ⟨by omega, by omega⟩
    unfold allBit at hall ⊢
    simp [hall, hb]
   go_roundw
   case rel => exact ⟨k + 1, l ++ [(x : Int)], by omega, by go_num, by simp [hl], hall3, hown3, hC3, hon3⟩
   case measure => simp [intOf]; omega
  ·have hl20 : l.length = 20 := by omega
   have HL := Lib.hid hl20
   clear hl hl20
   go_wp2_with (at_builtin; go_must (refine append_Z rfl _ _ rfl w.heap.size u3 l 60 rfl rfl hown (by rw [HL.out]; omega) (by omega) (by omega) (by rw [HL.out]; omega) hzr ?_); intro v' w3 hown3 hg3)
   have hB3 := hown.belowBase hzr hg3
   have hD : OwnD w3 w.heap.size v' (.ints (l ++ List.replicate 60 0)) := by unfold OwnD; exact hown3
   obtain ⟨B, m, d, rfl⟩ := hD.form
   have hl := HL.out
   have hall3 : allBit (l ++ List.replicate 60 0) = true := by
    unfold allBit at hall ⊢
    rw [List.all_append, hall]; decide
   refine bodyPost_ret (v := .slice B m d) (by simp [results, Try.results84, go_sem]) rfl ⟨B, m, d, _, rfl, OwnL.one hD (by have := hg3.size; omega), by simp [hl], hall3, hCr.belowB hB3 hg hA, ?_⟩
   exact ⟨hg3.os.trans hon.os, hg3.tape.trans hon.tape, hg3.output.trans hon.output, by have := hg3.size; omega, fun j hj hne => (hB3.block j hj).trans (hon.block j hj hne)⟩
def CaseOut (g : Nat) (A : Option Addr) (n c : Nat) (w : World) (e : Ending) (w' : World) : Prop := ∃ (gA : Option Addr) (gn gc : Nat) (oA : Option Addr) (om oc : Nat) (gl : List (Int × Int × Int)) (ol : List Int),
 e = .returned (.agg #[.slice gA gn gc, .slice oA om oc]) ∧ OwnL w' w.heap.size w'.heap.size [(.slice gA gn gc, .gates gl), (.slice oA om oc, .ints ol)] ∧ circOk gl ol = true ∧ gl.length ≤ 24 ∧ 1 ≤ ol.length ∧ ol.length ≤ 4 ∧ Cur w' g A n c ∧ Only g w w'
theorem gatesTo_app {l : List (Int × Int × Int)} {x : Int × Int × Int} {k : Nat} (h : gatesTo l k = true) (hk : l.length = k) (hx : gateOk x.1 x.2.1 x.2.2 (k : Int) = true) : gatesTo (l ++ [x]) (k + 1) = true := by
 have e1 : gatesTo (l ++ [x]) k = gatesTo l k := by
  unfold gatesTo
  rw [Bool.eq_iff_iff, List.all_eq_true, List.all_eq_true]
  constructor <;> intro hh j hj <;> have h2 := hh j hj <;> have hj' := List.mem_range.1 hj
  ·rw [show gAt l j = gAt (l ++ [x]) j by simp [gAt, List.getD, List.getElem?_append_left (show j < l.length by omega)]]; exact h2
  ·rw [show gAt (l ++ [x]) j = gAt l j by simp [gAt, List.getD, List.getElem?_append_left (show j < l.length by omega)]]; exact h2
 have e2 : gAt (l ++ [x]) k = x := by simp [gAt, List.getD, ← hk]
 exact gatesTo_yes (by rw [e1]; exact h) (by rw [e2]; exact hx)
theorem outs_app {l : List Int} {N x : Nat} (h : outsOk N l = true) (hx : (x : Int) < N) : outsOk N (l ++ [(x : Int)]) = true := by
 have h2 : inB (x : Int) 0 ((N : Int) - 1) = true := inB_iff.2 ⟨by omega, by omega⟩
 unfold outsOk at h ⊢
 simp [h, h2]
set_option maxRecDepth 100000 in
set_option maxHeartbeats 4000000 in
theorem l13Case_any (g n c : Nat) (A : Option Addr) (w : World) (hC : Cur w g A n c) :
  Calls Try.prog 83 #[.pointer (some ⟨g, 0, none⟩)] w (CaseOut g A n c w) := by
 have hg := hC.lt
 have hA := hC.addr
 go_enter Try.func83, Try.ntmps83
 go_wp2_with fail
 refine (l01Below_any g n c A 24 _ ((hC.alloc _).alloc _)).mono ?_
 rintro e w1 ⟨N0, hN0, _, rfl, cu, ho1⟩
 have hN := hN0 (by omega)
 clear hN0
 have z1 := ho1.size
 simp only [World.size_alloc] at z1
 have xr : Box w1 w.heap.size #[.slice none 0 0, .slice none 0 0] 27 := (((Box.new w _ _ rfl).alloc _).only ho1 (by simp; omega))
 have xq : Box w1 (w.heap.size + 1) #[.slice none 0 0, .slice none 0 0] 27 := ((Box.new _ _ _ (by simp)).only ho1 (by simp; omega))
 have on1 : Only g w w1 := ((Only.alloc _ _).trans (Only.alloc _ _)).trans ho1
 obtain ⟨N, hNe⟩ : ∃ N : Nat, Hid (N = N0 + 1) := ⟨_, rfl⟩
 have hw1 : (1 : Int) + (N0 : Int) = (N : Int) := by have := hNe.out; omega
 have hN24 : N ≤ 24 := by have := hNe.out; omega
 have hN1 : 1 ≤ N := by have := hNe.out; omega
 go_wp2_with fail
 (try rw [hw1])
 clear hw1
 go_loopw [5] (fun i wr => ∃ (k : Nat) (l : List (Int × Int × Int)) (A1 : Option Addr) (n1 c1 lo hi : Nat), k ≤ N ∧ i = .int .i64 k ∧ Hid (l.length = k) ∧ Hid (gatesTo l k = true) ∧ Hid (OwnL wr lo hi [(.slice A1 n1 c1, .gates l)]) ∧ w.heap.size + 2 ≤ lo ∧ Hid (Box wr w.heap.size #[.slice none 0 0, .slice none 0 0] 27) ∧ Hid (Box wr (w.heap.size + 1) #[.slice A1 n1 c1, .slice none 0 0] 27) ∧ Hid (Cur wr g A n c) ∧ Hid (Only g w wr)) (fun i _ => N - (intOf i).toNat)
 case atStart => exact ⟨0, [], none, 0, 0, w1.heap.size, w1.heap.size, by omega, rfl, rfl, rfl, OwnL.noneG _, by omega, xr, xq, cu, on1⟩
 case round =>
  obtain ⟨k, l, A1, n1, c1, lo, hi, hk, rfl, HL, HT, rg, hlo, xr, xq, cu, on1⟩ := hrel
  obtain ⟨w3, hw3⟩ : ∃ x, x = wr := ⟨wr, rfl⟩
  subst hw3
  have rg := rg.out
  have xr := xr.out
  have xq := xq.out
  have cu := cu.out
  have on1 := on1.out
  have s1 := rg.1
  have s2 := rg.2.1
  have z3 := on1.size
  have zq := xq.lt
  by_cases hlt : k < N
  ·go_wp2_with fail
   refine wp_region_held_drew (S := fun W => True) (by kernel_rfl) trivial (fun hS => ?_)
   (refine tk 0 hS ?_; (try simp only [Act.put, layA, layB, layC]))
   (refine tk 2 hS ?_; (try simp only [Act.put, layA, layB, layC]))
   (refine tk 3 hS ?_; (try simp only [Act.put, layA, layB, layC]))
   refine forkH (i := 1) (j := 4) (by simp only [List.getElem?_toArray, List.getElem?_cons_succ, List.getElem?_cons_zero] <;> rfl) (by simp only [List.getElem?_toArray, List.getElem?_cons_succ, List.getElem?_cons_zero] <;> rfl) (by kernel_rfl) (by rfl) (by rfl) ?_ ?_
   ·obtain ⟨p0, p1, f0, f1⟩ := xq.two
    refine valueH (by go_simp; (first | done | with_reducible rfl | exact ⟨rfl, rfl⟩)) hS (fun hS => ?_)
    clear p0 p1 f0 f1
    (try simp only [Act.put, layA, layB, layC])
    refine on 4 ?_
    refine callH (by go_simp; (first | done | with_reducible rfl | exact ⟨rfl, rfl⟩)) ?_
    go_at_call 115
    refine (l13Gate_any g n c A k _ (Cur.drew cu)).mono ?_
    rintro e w4 ⟨ki, ai, bi, rfl, hok, cu, ho⟩
    have zz := ho.size
    (try simp only [size_drew] at zz)
    replace rg := rg.drew.away ho.chg (by omega)
    have s_rg := rg.2.1
    replace xr := xr.drew.only ho (by simp; omega)
    replace xq := xq.drew.only ho (by simp; omega)
    replace on1 := on1.trans ((Only.drew g _).trans ho)
    have hlb : w.heap.size + 1 < w4.heap.size := by omega
    refine ⟨_, rfl, trivial, fun hS => ?_⟩
    (try simp only [Act.put, layA, layB, layC])
    refine on 5 ?_
    refine valueH (by go_simp; (first | done | with_reducible rfl | exact ⟨rfl, rfl⟩)) trivial (fun hS => ?_)
    (try simp only [Act.put, layA, layB, layC])
    refine on 6 ?_
    have hll := HL.out
    refine appendH_G (.tmp 17) (.tmp 21) rfl rfl (rg.alloc _) rfl (Box.new (g := w4.heap.size) _ _ _ rfl) (by omega) ?_
    intro A2 n2 c2 lo2 hi2 w5 rg5 d5 c5
    have z5 := c5.size
    (try simp only [World.size_alloc] at z5 d5)
    replace xr := (xr.alloc _).chg c5 (by omega)
    replace xq := (xq.alloc _).chg c5 (by omega)
    replace cu := (cu.alloc _).chg c5 (B := w.heap.size) (by omega) (by simp; omega) hg hA
    replace on1 := (on1.trans (Only.alloc _ _)).chg2 c5 (by omega)
    have q1 := rg5.1
    have q2 := rg5.2.1
    refine ⟨trivial, fun hS => ?_⟩
    (try simp only [Act.put, layA, layB, layC])
    (refine tk 7 hS ?_; (try simp only [Act.put, layA, layB, layC]))
    obtain ⟨p0, p1, f0, f1⟩ := xq.two
    have hlc : w.heap.size + 1 < w5.heap.size := by omega
    refine on 8 ?_
    refine skipH (by go_simp; (first | done | with_reducible rfl | exact ⟨rfl, rfl⟩)) trivial (fun hS => ?_)
    (try simp only [Act.put, layA, layB, layC])
    clear hS
    refine wpAnyH_done (by kernel_rfl) ?_ _
    go_wp2
    go_roundw
    case rel => exact ⟨k + 1, _, _, _, _, lo2, hi2, by omega, by go_num, by show List.length _ = _; simp [HL.out], gatesTo_app HT.out HL.out hok, rg5.setBox (by omega), by omega, xr.far (by omega), xq.setAt (by simp), cu.setFar (by omega) (fun hn a ha => by have := hA hn a ha; omega), on1.setNew (by omega)⟩
    case measure => simp [intOf]; omega
   ·refine callH (by go_simp; (first | done | with_reducible rfl | exact ⟨rfl, rfl⟩)) ?_
    go_at_call 115
    refine (l13Gate_any g n c A k _ (Cur.drew cu)).mono ?_
    rintro e w4 ⟨ki, ai, bi, rfl, hok, cu, ho⟩
    have zz := ho.size
    (try simp only [size_drew] at zz)
    replace rg := rg.drew.away ho.chg (by omega)
    have s_rg := rg.2.1
    replace xr := xr.drew.only ho (by simp; omega)
    replace xq := xq.drew.only ho (by simp; omega)
    replace on1 := on1.trans ((Only.drew g _).trans ho)
    have hlb : w.heap.size + 1 < w4.heap.size := by omega
    refine ⟨_, rfl, trivial, fun hS => ?_⟩
    (try simp only [Act.put, layA, layB, layC])
    refine forkH (i := 1) (j := 5) (by simp only [List.getElem?_toArray, List.getElem?_cons_succ, List.getElem?_cons_zero] <;> rfl) (by simp only [List.getElem?_toArray, List.getElem?_cons_succ, List.getElem?_cons_zero] <;> rfl) (by kernel_rfl) (by rfl) (by rfl) ?_ ?_
    ·obtain ⟨p0, p1, f0, f1⟩ := xq.two
     refine valueH (by go_simp; (first | done | with_reducible rfl | exact ⟨rfl, rfl⟩)) hS (fun hS => ?_)
     clear p0 p1 f0 f1
     (try simp only [Act.put, layA, layB, layC])
     refine on 5 ?_
     refine valueH (by go_simp; (first | done | with_reducible rfl | exact ⟨rfl, rfl⟩)) trivial (fun hS => ?_)
     (try simp only [Act.put, layA, layB, layC])
     refine on 6 ?_
     have hll := HL.out
     refine appendH_G (.tmp 17) (.tmp 21) rfl rfl (rg.alloc _) rfl (Box.new (g := w4.heap.size) _ _ _ rfl) (by omega) ?_
     intro A2 n2 c2 lo2 hi2 w5 rg5 d5 c5
     have z5 := c5.size
     (try simp only [World.size_alloc] at z5 d5)
     replace xr := (xr.alloc _).chg c5 (by omega)
     replace xq := (xq.alloc _).chg c5 (by omega)
     replace cu := (cu.alloc _).chg c5 (B := w.heap.size) (by omega) (by simp; omega) hg hA
     replace on1 := (on1.trans (Only.alloc _ _)).chg2 c5 (by omega)
     have q1 := rg5.1
     have q2 := rg5.2.1
     refine ⟨trivial, fun hS => ?_⟩
     (try simp only [Act.put, layA, layB, layC])
     (refine tk 7 hS ?_; (try simp only [Act.put, layA, layB, layC]))
     obtain ⟨p0, p1, f0, f1⟩ := xq.two
     have hlc : w.heap.size + 1 < w5.heap.size := by omega
     refine on 8 ?_
     refine skipH (by go_simp; (first | done | with_reducible rfl | exact ⟨rfl, rfl⟩)) trivial (fun hS => ?_)
     (try simp only [Act.put, layA, layB, layC])
     clear hS
     refine wpAnyH_done (by kernel_rfl) ?_ _
     go_wp2
     go_roundw
     case rel => exact ⟨k + 1, _, _, _, _, lo2, hi2, by omega, by go_num, by show List.length _ = _; simp [HL.out], gatesTo_app HT.out HL.out hok, rg5.setBox (by omega), by omega, xr.far (by omega), xq.setAt (by simp), cu.setFar (by omega) (fun hn a ha => by have := hA hn a ha; omega), on1.setNew (by omega)⟩
     case measure => simp [intOf]; omega
    ·refine valueH (by go_simp; (first | done | with_reducible rfl | exact ⟨rfl, rfl⟩)) trivial (fun hS => ?_)
     (try simp only [Act.put, layA, layB, layC])
     refine on 1 ?_
     obtain ⟨p0, p1, f0, f1⟩ := xq.two
     refine valueH (by go_simp; (first | done | with_reducible rfl | exact ⟨rfl, rfl⟩)) hS (fun hS => ?_)
     clear p0 p1 f0 f1
     (try simp only [Act.put, layA, layB, layC])
     refine on 6 ?_
     have hll := HL.out
     refine appendH_G (.tmp 17) (.tmp 21) rfl rfl (rg.alloc _) rfl (Box.new (g := w4.heap.size) _ _ _ rfl) (by omega) ?_
     intro A2 n2 c2 lo2 hi2 w5 rg5 d5 c5
     have z5 := c5.size
     (try simp only [World.size_alloc] at z5 d5)
     replace xr := (xr.alloc _).chg c5 (by omega)
     replace xq := (xq.alloc _).chg c5 (by omega)
     replace cu := (cu.alloc _).chg c5 (B := w.heap.size) (by omega) (by simp; omega) hg hA
     replace on1 := (on1.trans (Only.alloc _ _)).chg2 c5 (by omega)
     have q1 := rg5.1
     have q2 := rg5.2.1
     refine ⟨trivial, fun hS => ?_⟩
     (try simp only [Act.put, layA, layB, layC])
     (refine tk 7 hS ?_; (try simp only [Act.put, layA, layB, layC]))
     obtain ⟨p0, p1, f0, f1⟩ := xq.two
     have hlc : w.heap.size + 1 < w5.heap.size := by omega
     refine on 8 ?_
     refine skipH (by go_simp; (first | done | with_reducible rfl | exact ⟨rfl, rfl⟩)) trivial (fun hS => ?_)
     (try simp only [Act.put, layA, layB, layC])
     clear hS
     refine wpAnyH_done (by kernel_rfl) ?_ _
     go_wp2
     go_roundw
     case rel => exact ⟨k + 1, _, _, _, _, lo2, hi2, by omega, by go_num, by show List.length _ = _; simp [HL.out], gatesTo_app HT.out HL.out hok, rg5.setBox (by omega), by omega, xr.far (by omega), xq.setAt (by simp), cu.setFar (by omega) (fun hn a ha => by have := hA hn a ha; omega), on1.setNew (by omega)⟩
     case measure => simp [intOf]; omega
  ·have hkN : k = N := by omega
   have HT2 := Lib.hid (show gatesTo l N = true by rw [← hkN]; exact HT.out)
   have HL2 := Lib.hid (show l.length = N by rw [← hkN]; exact HL.out)
   clear HT HL hkN
   go_wp2_with fail
   clear hlt hk
   go_loopw [6] (fun i wr => ∃ (j : Nat) (ol : List Int) (A2 : Option Addr) (n2 c2 lo2 hi2 : Nat), j ≤ 4 ∧ i = .int .i64 j ∧ Hid (ol.length = j) ∧ Hid (outsOk N ol = true) ∧ Hid (OwnL wr lo hi [(.slice A1 n1 c1, .gates l)]) ∧ Hid (OwnL wr lo2 hi2 [(.slice A2 n2 c2, .ints ol)]) ∧ (hi ≤ lo2 ∨ hi2 ≤ lo) ∧ w.heap.size + 2 ≤ lo2 ∧ Hid (Box wr w.heap.size #[.slice none 0 0, .slice none 0 0] 27) ∧ Hid (Box wr (w.heap.size + 1) #[.slice A1 n1 c1, .slice A2 n2 c2] 27) ∧ Hid (Cur wr g A n c) ∧ Hid (Only g w wr)) (fun i _ => 4 - (intOf i).toNat)
   case atStart => exact ⟨0, [], none, 0, 0, w3.heap.size, w3.heap.size, by omega, rfl, rfl, rfl, rg, OwnL.nones _ (by simp) (Nat.le_refl _), by omega, by omega, xr, xq, cu, on1⟩
   case round =>
    obtain ⟨j, ol, A2, n2, c2, lo2, hi2, hj, rfl, HL, HO, rg, ro, hd, hlo2, xr, xq, cu, on1⟩ := hrel
    obtain ⟨w6, hw6⟩ : ∃ x, x = wr := ⟨wr, rfl⟩
    subst hw6
    have rg := rg.out
    have ro := ro.out
    have xr := xr.out
    have xq := xq.out
    have cu := cu.out
    have on1 := on1.out
    have t1 := ro.1
    have t2 := ro.2.1
    have t3 := rg.2.1
    have z6 := on1.size
    have zq6 := xq.lt
    go_wp2_with fail
    refine (l01Below_any g n c A 4 _ cu).mono ?_
    rintro e w7 ⟨y, hy, _, rfl, cu, ho⟩
    have hyb := hy (by omega)
    clear hy
    have z7 := ho.size
    replace rg := rg.away ho.chg (by omega)
    replace ro := ro.away ho.chg (by omega)
    replace xr := xr.only ho (by simp; omega)
    replace xq := xq.only ho (by simp; omega)
    replace on1 := on1.trans ho
    have t4 := ro.2.1
    have t5 := rg.2.1
    have zq7 := xq.lt
    have zr7 := xr.lt
    by_cases hlt : j < 1 + y
    ·have hlt' : (j : Int) < 1 + (y : Int) := by omega
     go_wp2_with fail
     refine wp_region_held_drew (S := fun W => True) (by kernel_rfl) trivial (fun hS => ?_)
     (refine tk 0 hS ?_; (try simp only [Act.put, layA, layB, layC]))
     (refine tk 2 hS ?_; (try simp only [Act.put, layA, layB, layC]))
     (refine tk 3 hS ?_; (try simp only [Act.put, layA, layB, layC]))
     refine forkH (i := 1) (j := 4) (by simp only [List.getElem?_toArray, List.getElem?_cons_succ, List.getElem?_cons_zero] <;> rfl) (by simp only [List.getElem?_toArray, List.getElem?_cons_succ, List.getElem?_cons_zero] <;> rfl) (by kernel_rfl) (by rfl) (by rfl) ?_ ?_
     ·obtain ⟨p0, p1, f0, f1⟩ := xq.two
      refine valueH (by go_simp; (first | done | with_reducible rfl | exact ⟨rfl, rfl⟩)) hS (fun hS => ?_)
      clear p0 p1 f0 f1
      (try simp only [Act.put, layA, layB, layC])
      refine on 4 ?_
      refine callH (by go_simp; (first | done | with_reducible rfl | exact ⟨rfl, rfl⟩)) ?_
      go_at_call 112
      refine (l01Below_any g n c A (N : Int) _ (Cur.drew cu)).mono ?_
      rintro e w4 ⟨x, hx, _, rfl, cu, ho⟩
      have hxb := hx (by omega)
      clear hx
      have zz := ho.size
      (try simp only [size_drew] at zz)
      replace rg := rg.drew.away ho.chg (by omega)
      have s_rg := rg.2.1
      replace ro := ro.drew.away ho.chg (by omega)
      have s_ro := ro.2.1
      replace xr := xr.drew.only ho (by simp; omega)
      replace xq := xq.drew.only ho (by simp; omega)
      replace on1 := on1.trans ((Only.drew g _).trans ho)
      have hlb : w.heap.size + 1 < w4.heap.size := by omega
      refine ⟨_, rfl, trivial, fun hS => ?_⟩
      (try simp only [Act.put, layA, layB, layC])
      refine on 5 ?_
      refine valueH (by go_simp; (first | done | with_reducible rfl | exact ⟨rfl, rfl⟩)) trivial (fun hS => ?_)
      (try simp only [Act.put, layA, layB, layC])
      refine on 6 ?_
      have hll := HL.out
      refine appendH_L (.tmp 32) (.tmp 36) rfl rfl (ro.alloc _) rfl (Ints.new (g := w4.heap.size) _ [(x : Int)] 3 rfl rfl) (by omega) ?_
      intro A2 n2 c2 lo2 hi2 w5 ro5 d5 c5
      have z5 := c5.size
      (try simp only [World.size_alloc] at z5 d5)
      replace xr := (xr.alloc _).chg c5 (by omega)
      replace xq := (xq.alloc _).chg c5 (by omega)
      replace rg := (rg.alloc _).away c5 (by omega)
      replace cu := (cu.alloc _).chg c5 (B := w.heap.size) (by omega) (by simp; omega) hg hA
      replace on1 := (on1.trans (Only.alloc _ _)).chg2 c5 (by omega)
      have q1 := ro5.1
      have q2 := ro5.2.1
      refine ⟨trivial, fun hS => ?_⟩
      (try simp only [Act.put, layA, layB, layC])
      (refine tk 7 hS ?_; (try simp only [Act.put, layA, layB, layC]))
      obtain ⟨p0, p1, f0, f1⟩ := xq.two
      have hlc : w.heap.size + 1 < w5.heap.size := by omega
      refine on 8 ?_
      refine skipH (by go_simp; (first | done | with_reducible rfl | exact ⟨rfl, rfl⟩)) trivial (fun hS => ?_)
      (try simp only [Act.put, layA, layB, layC])
      clear hS
      refine wpAnyH_done (by kernel_rfl) ?_ _
      go_wp2
      go_roundw
      case rel => exact ⟨j + 1, _, _, _, _, lo2, hi2, by omega, by go_num, by show List.length _ = _; simp [HL.out], outs_app HO.out (by omega), rg.setBox (by omega), ro5.setBox (by omega), by omega, by omega, xr.far (by omega), xq.setAt (by simp), cu.setFar (by omega) (fun hn a ha => by have := hA hn a ha; omega), on1.setNew (by omega)⟩
      case measure => simp [intOf]; omega
     ·refine callH (by go_simp; (first | done | with_reducible rfl | exact ⟨rfl, rfl⟩)) ?_
      go_at_call 112
      refine (l01Below_any g n c A (N : Int) _ (Cur.drew cu)).mono ?_
      rintro e w4 ⟨x, hx, _, rfl, cu, ho⟩
      have hxb := hx (by omega)
      clear hx
      have zz := ho.size
      (try simp only [size_drew] at zz)
      replace rg := rg.drew.away ho.chg (by omega)
      have s_rg := rg.2.1
      replace ro := ro.drew.away ho.chg (by omega)
      have s_ro := ro.2.1
      replace xr := xr.drew.only ho (by simp; omega)
      replace xq := xq.drew.only ho (by simp; omega)
      replace on1 := on1.trans ((Only.drew g _).trans ho)
      have hlb : w.heap.size + 1 < w4.heap.size := by omega
      refine ⟨_, rfl, trivial, fun hS => ?_⟩
      (try simp only [Act.put, layA, layB, layC])
      refine forkH (i := 1) (j := 5) (by simp only [List.getElem?_toArray, List.getElem?_cons_succ, List.getElem?_cons_zero] <;> rfl) (by simp only [List.getElem?_toArray, List.getElem?_cons_succ, List.getElem?_cons_zero] <;> rfl) (by kernel_rfl) (by rfl) (by rfl) ?_ ?_
      ·obtain ⟨p0, p1, f0, f1⟩ := xq.two
       refine valueH (by go_simp; (first | done | with_reducible rfl | exact ⟨rfl, rfl⟩)) hS (fun hS => ?_)
       clear p0 p1 f0 f1
       (try simp only [Act.put, layA, layB, layC])
       refine on 5 ?_
       refine valueH (by go_simp; (first | done | with_reducible rfl | exact ⟨rfl, rfl⟩)) trivial (fun hS => ?_)
       (try simp only [Act.put, layA, layB, layC])
       refine on 6 ?_
       have hll := HL.out
       refine appendH_L (.tmp 32) (.tmp 36) rfl rfl (ro.alloc _) rfl (Ints.new (g := w4.heap.size) _ [(x : Int)] 3 rfl rfl) (by omega) ?_
       intro A2 n2 c2 lo2 hi2 w5 ro5 d5 c5
       have z5 := c5.size
       (try simp only [World.size_alloc] at z5 d5)
       replace xr := (xr.alloc _).chg c5 (by omega)
       replace xq := (xq.alloc _).chg c5 (by omega)
       replace rg := (rg.alloc _).away c5 (by omega)
       replace cu := (cu.alloc _).chg c5 (B := w.heap.size) (by omega) (by simp; omega) hg hA
       replace on1 := (on1.trans (Only.alloc _ _)).chg2 c5 (by omega)
       have q1 := ro5.1
       have q2 := ro5.2.1
       refine ⟨trivial, fun hS => ?_⟩
       (try simp only [Act.put, layA, layB, layC])
       (refine tk 7 hS ?_; (try simp only [Act.put, layA, layB, layC]))
       obtain ⟨p0, p1, f0, f1⟩ := xq.two
       have hlc : w.heap.size + 1 < w5.heap.size := by omega
       refine on 8 ?_
       refine skipH (by go_simp; (first | done | with_reducible rfl | exact ⟨rfl, rfl⟩)) trivial (fun hS => ?_)
       (try simp only [Act.put, layA, layB, layC])
       clear hS
       refine wpAnyH_done (by kernel_rfl) ?_ _
       go_wp2
       go_roundw
       case rel => exact ⟨j + 1, _, _, _, _, lo2, hi2, by omega, by go_num, by show List.length _ = _; simp [HL.out], outs_app HO.out (by omega), rg.setBox (by omega), ro5.setBox (by omega), by omega, by omega, xr.far (by omega), xq.setAt (by simp), cu.setFar (by omega) (fun hn a ha => by have := hA hn a ha; omega), on1.setNew (by omega)⟩
       case measure => simp [intOf]; omega
      ·refine valueH (by go_simp; (first | done | with_reducible rfl | exact ⟨rfl, rfl⟩)) trivial (fun hS => ?_)
       (try simp only [Act.put, layA, layB, layC])
       refine on 1 ?_
       obtain ⟨p0, p1, f0, f1⟩ := xq.two
       refine valueH (by go_simp; (first | done | with_reducible rfl | exact ⟨rfl, rfl⟩)) hS (fun hS => ?_)
       clear p0 p1 f0 f1
       (try simp only [Act.put, layA, layB, layC])
       refine on 6 ?_
       have hll := HL.out
       refine appendH_L (.tmp 32) (.tmp 36) rfl rfl (ro.alloc _) rfl (Ints.new (g := w4.heap.size) _ [(x : Int)] 3 rfl rfl) (by omega) ?_
       intro A2 n2 c2 lo2 hi2 w5 ro5 d5 c5
       have z5 := c5.size
       (try simp only [World.size_alloc] at z5 d5)
       replace xr := (xr.alloc _).chg c5 (by omega)
       replace xq := (xq.alloc _).chg c5 (by omega)
       replace rg := (rg.alloc _).away c5 (by omega)
       replace cu := (cu.alloc _).chg c5 (B := w.heap.size) (by omega) (by simp; omega) hg hA
       replace on1 := (on1.trans (Only.alloc _ _)).chg2 c5 (by omega)
       have q1 := ro5.1
       have q2 := ro5.2.1
       refine ⟨trivial, fun hS => ?_⟩
       (try simp only [Act.put, layA, layB, layC])
       (refine tk 7 hS ?_; (try simp only [Act.put, layA, layB, layC]))
       obtain ⟨p0, p1, f0, f1⟩ := xq.two
       have hlc : w.heap.size + 1 < w5.heap.size := by omega
       refine on 8 ?_
       refine skipH (by go_simp; (first | done | with_reducible rfl | exact ⟨rfl, rfl⟩)) trivial (fun hS => ?_)
       (try simp only [Act.put, layA, layB, layC])
       clear hS
       refine wpAnyH_done (by kernel_rfl) ?_ _
       go_wp2
       go_roundw
       case rel => exact ⟨j + 1, _, _, _, _, lo2, hi2, by omega, by go_num, by show List.length _ = _; simp [HL.out], outs_app HO.out (by omega), rg.setBox (by omega), ro5.setBox (by omega), by omega, by omega, xr.far (by omega), xq.setAt (by simp), cu.setFar (by omega) (fun hn a ha => by have := hA hn a ha; omega), on1.setNew (by omega)⟩
       case measure => simp [intOf]; omega
    ·have hlt' : ¬ (j : Int) < 1 + (y : Int) := by omega
     obtain ⟨p0, p1, f0, f1⟩ := xq.two
     obtain ⟨d0, d1, e0, e1⟩ := xr.two
     go_wp2
     have hl2 := HL2.out
     have hlj := HL.out
     have h1 : gatesTo l l.length = true := by rw [hl2]; exact HT2.out
     have h2 : outsOk l.length ol = true := by rw [hl2]; exact HO.out
     have R := OwnL.two (B := w.heap.size + 2) rg ro hd (by omega) (by omega)
     simp only [List.cons_append, List.nil_append] at R
     refine bodyPost_ret (v := .agg #[.slice A1 n1 c1, .slice A2 n2 c2]) (by simp [results, Try.results83, go_sem, p0, p1, f0, f1, d0, d1, e0, e1, zq7, zr7]) rfl ⟨_, _, _, _, _, _, l, ol, rfl, OwnL.mono ((R.setBox (by omega)).setBox (by omega)) (by omega) (by simp) (by simp), by rw [circOk, h1, h2]; simp; omega, by omega, by omega, by omega, ?_, ?_⟩
     ·exact (cu.setFar (by omega) (fun hn a ha => by have := hA hn a ha; omega)).setFar (by omega) (fun hn a ha => by have := hA hn a ha; omega)
     ·exact (on1.setNew (by omega)).setNew (by omega)
end Go.Proofs.Ytodnahpegecpiaa
namespace Go.Proofs.Ytodnahpegecpiaa
set_option linter.unusedSimpArgs false
set_option linter.unusedVariables false
open Go.RowKit
theorem Bts.alloc {w : World} {A : Option Addr} {n : Nat} (h : Bts w A n) (o : Obj) : Bts (w.alloc o) A n := h.keep fun _ a _ ha => Below.heap_alloc _ _ _ ha
def GarbD (w : World) (e : Ending) (w' : World) : Prop := ∃ (gA : Option Addr) (gn gc : Nat) (oA : Option Addr) (om oc : Nat) (bA : Option Addr) (bm bc : Nat) (gl : List (Int × Int × Int)) (ol bl : List Int) (s a : Int),
 e = .returned (.tuple #[.agg #[.slice gA gn gc, .slice oA om oc], .slice bA bm bc, .agg #[.int .i64 s, .int .i64 a]]) ∧ OwnL w' w.heap.size w'.heap.size [(.slice gA gn gc, .gates gl), (.slice oA om oc, .ints ol), (.slice bA bm bc, .ints bl)] ∧
 circOk gl ol = true ∧ gl.length ≤ 24 ∧ 1 ≤ ol.length ∧ ol.length ≤ 4 ∧ bitsOk bl 80 = true ∧ dlOk s a = true ∧ Below w.heap.size w w'
set_option maxRecDepth 100000 in
set_option maxHeartbeats 4000000 in
theorem DrawGarbling_any (n c : Nat) (A : Option Addr) (w : World) (ht : Bts w A n) :
  Calls Try.prog 23 #[.slice A n c] w (GarbD w) := by
 go_enter Try.func23, Try.ntmps23
 go_wp2_with fail
 refine (l01New_any n c A _ ((ht.alloc _).alloc _)).mono ?_
 rintro e w1 ⟨g, hg, rfl, cu, hb1⟩
 have z1 := hb1.size
 simp only [World.size_alloc] at z1 hg
 have hgl := cu.lt
 have xr : Box w1 w.heap.size #[.slice none 0 0, .slice none 0 0] 27 := ((Box.new w _ _ rfl).alloc _).below hb1 (by simp; omega)
 have xt : Box w1 (w.heap.size + 1) #[.int .i64 0, .int .i64 0] 29 := (Box.new _ _ _ (by simp)).below hb1 (by simp)
 have B1 : Below w.heap.size w w1 := Below.trans (b := _) (by repeat (with_reducible (first | assumption | exact Below.refl _ _ | refine Below.alloc ?_ (by first | omega | (simp; done) | (simp; omega)) _ | refine Below.setCell ?_ (by first | omega | (simp; done) | (simp; omega)) _ | refine Below.drew ?_ | refine below_drewN ?_ _))) (hb1.mono (by simp; omega))
 go_wp2_with fail
 refine (l13Case_any g n c A _ cu).mono ?_
 rintro e w2 ⟨gA, gn, gc, oA, om, oc, gl, ol, rfl, R, hc, hg24, ho1, ho4, cu, on2⟩
 have z2 := on2.size
 replace xr := xr.only on2 (by simp; omega)
 replace xt := xt.only on2 (by simp; omega)
 have B2 := Only.below B1 (by omega) B1.size on2
 go_wp2_with fail
 refine (l13Input_any g n c A _ (cu.alloc _)).mono ?_
 rintro e w3 ⟨bA, bm, bc, bl, rfl, RB, hbl, hbb, cu, on3⟩
 have z3 := on3.size
 simp only [World.size_alloc] at z3
 have xb : Box w3 w2.heap.size #[.slice gA gn gc, .slice oA om oc] 27 := (Box.new w2 _ _ rfl).only on3 (by simp; omega)
 replace xr := (xr.alloc _).only on3 (by simp; omega)
 replace xt := (xt.alloc _).only on3 (by simp; omega)
 replace R := (R.alloc _).away on3.chg (by omega)
 have B3 := Only.below (B2.alloc (by omega) _) (by omega) (by simp; omega) on3
 go_wp2_with fail
 refine wp_region_held_drew (S := fun W => W.cell? ⟨w2.heap.size, 0, none⟩ = some (.slice gA gn gc) ∧ W.cell? ⟨w2.heap.size, 1, none⟩ = some (.slice oA om oc)) (by kernel_rfl) ⟨xb.two.1, xb.two.2.1⟩ (fun hS => ?_)
 (refine tk 0 hS ?_; (try simp only [Act.put, layA, layB, layC]))
 (refine tk 1 hS ?_; (try simp only [Act.put, layA, layB, layC]))
 (refine tk 2 hS ?_; (try simp only [Act.put, layA, layB, layC]))
 refine on 3 ?_
 refine callH (by go_simp; (first | done | with_reducible rfl | exact ⟨rfl, rfl⟩)) ?_
 go_at_call 85
 refine (l04Tape_any g n c A _ (Cur.drew cu)).mono ?_
 rintro e w4 ⟨s, a, hs, ha, rfl, cu4, ho⟩
 have z4 := ho.size
 simp only [size_drew] at z4
 replace xb := xb.drew.only ho (by simp; omega)
 replace xr := xr.drew.only ho (by simp; omega)
 replace xt := xt.drew.only ho (by simp; omega)
 replace R := R.drew.away ho.chg (by omega)
 simp only [World.size_alloc] at RB
 replace RB := RB.drew.away ho.chg (by omega)
 have B4 := Only.below (Below.drew B3) (by omega) (by simp [size_drew]; omega) ho
 have zb := xb.lt
 have zr := xr.lt
 have zt := xt.lt
 refine ⟨_, rfl, ⟨xb.two.1, xb.two.2.1⟩, fun hS => ?_⟩
 (try simp only [Act.put, layA, layB, layC])
 obtain ⟨p0, p1, f0, f1⟩ := xr.two
 refine on 4 ?_
 refine skipH (by go_simp; (first | done | with_reducible rfl | exact ⟨rfl, rfl⟩)) ⟨((xb.far (by omega)).far (by omega)).two.1, ((xb.far (by omega)).far (by omega)).two.2.1⟩ (fun hS => ?_)
 (try simp only [Act.put, layA, layB, layC])
 clear p0 p1 f0 f1
 (refine tk 5 hS ?_; (try simp only [Act.put, layA, layB, layC]))
 obtain ⟨q0, q1, e0, e1⟩ := xt.two
 refine on 6 ?_
 refine skipH (by go_simp; (first | done | with_reducible rfl | exact ⟨rfl, rfl⟩)) ⟨((((xb.far (by omega)).far (by omega)).far (by omega)).far (by omega)).two.1, ((((xb.far (by omega)).far (by omega)).far (by omega)).far (by omega)).two.2.1⟩ (fun hS => ?_)
 (try simp only [Act.put, layA, layB, layC])
 clear hS q0 q1 e0 e1
 refine wpAnyH_done (by kernel_rfl) ?_ _
 obtain ⟨p0, p1, f0, f1⟩ := xr.two
 obtain ⟨q0, q1, e0, e1⟩ := xt.two
 go_wp2
 have hdl : dlOk (s : Int) (a : Int) = true := by
  have h1 : word (s : Int) = true := inB_iff.2 ⟨by omega, by omega⟩
  have h2 : inB (a : Int) 0 1000000 = true := inB_iff.2 ⟨by omega, by omega⟩
  simp [dlOk, tapeOk, h1, h2]; omega
 have hbits : bitsOk bl 80 = true := by simp [bitsOk, hbb, hbl]
 have RR := (OwnL.then R RB (by omega)).mono (lo2 := w.heap.size + 1 + 1) (hi2 := w4.heap.size) (by omega) (by omega) (Nat.le_refl _)
 simp only [List.cons_append, List.nil_append] at RR
 refine bodyPost_ret (v := .tuple #[.agg #[.slice gA gn gc, .slice oA om oc], .slice bA bm bc, .agg #[.int .i64 s, .int .i64 a]]) (by simp [results, Try.results23, go_sem, p0, p1, f0, f1, q0, q1, e0, e1, zr, zt]) rfl ⟨_, _, _, _, _, _, _, _, _, gl, ol, bl, s, a, rfl, OwnL.mono ((((RR.setBox (by omega)).setBox (by omega)).setBox (by omega)).setBox (by omega)) (by omega) (by simp) (by simp), hc, hg24, ho1, ho4, hbits, hdl, ?_⟩
 repeat (with_reducible (first | assumption | exact Below.refl _ _ | refine Below.alloc ?_ (by first | omega | (simp; done) | (simp; omega)) _ | refine Below.setCell ?_ (by first | omega | (simp; done) | (simp; omega)) _ | refine Below.drew ?_ | refine below_drewN ?_ _))
end Go.Proofs.Ytodnahpegecpiaa
namespace Go.Proofs.Ytodnahpegecpiaa
set_option linter.unusedSimpArgs false
set_option linter.unusedVariables false
open Go.RowKit
theorem ownCell {w : World} {lo hi g o n c : Nat} {l : List Int} {ls : List (Value × Dat)} (h : OwnL w lo hi ls) (hm : ((.slice (some ⟨g, o, none⟩) n c, .ints l) : Value × Dat) ∈ ls) (j : Nat) (hj : j < l.length) : w.cell? ⟨g, o + j, none⟩ = some (.int .i64 (nth l j)) := by
 obtain ⟨A, m, d, e, hI⟩ : Rd w (.slice (some ⟨g, o, none⟩) n c) l := h.rd _ hm
 cases e
 have hl := hI.len
 obtain ⟨g', o', e', _, hc⟩ := hI.block (by omega)
 cases e'
 exact hc j (by omega)
theorem ownSome {w : World} {lo hi n c : Nat} {A : Option Addr} {l : List Int} {ls : List (Value × Dat)} (h : OwnL w lo hi ls) (hm : ((.slice A n c, .ints l) : Value × Dat) ∈ ls) (hl : 0 < l.length) : ∃ g o, A = some ⟨g, o, none⟩ ∧ g < w.heap.size := by
 obtain ⟨A', m, d, e, hI⟩ : Rd w (.slice A n c) l := h.rd _ hm
 cases e
 obtain ⟨g', o', e', hg, _⟩ := hI.block (by rw [← hI.len]; exact hl)
 exact ⟨g', o', e', hg⟩
theorem ownLen {w : World} {lo hi n c : Nat} {A : Option Addr} {l : List Int} {ls : List (Value × Dat)} (h : OwnL w lo hi ls) (hm : ((.slice A n c, .ints l) : Value × Dat) ∈ ls) : n = l.length := by
 obtain ⟨A', m, d, e, hI⟩ : Rd w (.slice A n c) l := h.rd _ hm
 cases e
 exact hI.len.symm
theorem ownLenG {w : World} {lo hi n c : Nat} {A : Option Addr} {l : List (Int × Int × Int)} {ls : List (Value × Dat)} (h : OwnL w lo hi ls) (hm : ((.slice A n c, .gates l) : Value × Dat) ∈ ls) : n = l.length := by
 obtain ⟨A', m, d, e, hI⟩ : RdG w (.slice A n c) l := h.rd _ hm
 cases e
 exact hI.1.symm
set_option maxRecDepth 100000 in
theorem sameInts_any (A B : Option Addr) (n c d : Nat) (l : List Int) (w : World) (h : Ints w A n l) (h2 : Ints w B n l) (hn : n ≤ 1048576) :
  Calls Try.prog 68 #[.slice A n c, .slice B n d] w fun e w' => e = .returned (.bool true) ∧ Below w.heap.size w w' := by
 go_enter Try.func68, Try.ntmps68
 go_wp2_with fail
 go_loopw [5] (fun i wr => ∃ k : Nat, k ≤ n ∧ i = .int .i64 k ∧ Below w.heap.size w wr) (fun i _ => n - (intOf i).toNat)
 case atStart => exact ⟨0, by omega, rfl, Below.refl _ _⟩
 case round =>
  obtain ⟨k, hk, rfl, hbr⟩ := hrel
  by_cases hlt : k < n
  ·obtain ⟨g, o, rfl, hg, hc⟩ := h.block (by omega)
   obtain ⟨g2, o2, rfl, hg2, hc2⟩ := h2.block (by omega)
   have hck : wr.cell? ⟨g, o + k, none⟩ = some (.int .i64 (nth l k)) := (hbr.cell hg).trans (hc k hlt)
   have hck2 : wr.cell? ⟨g2, o2 + k, none⟩ = some (.int .i64 (nth l k)) := (hbr.cell hg2).trans (hc2 k hlt)
   clear hc hc2
   go_wp2_with fail
   go_quiet (fail)
   go_wp2_with fail
   go_roundw
   case rel => exact ⟨k + 1, by omega, by go_num, below_drewN hbr _⟩
   case measure => simp [intOf]; omega
  ·go_wp2
   go_ret
   exact ⟨rfl, hbr⟩
theorem sameInts_L {v v2 : Value} {l : List Int} {w : World} (h : RdL w [(v, .ints l)]) (h2 : RdL w [(v2, .ints l)]) (hn : l.length ≤ 1048576) :
  Calls Try.prog 68 #[v, v2] w fun e w' => e = .returned (.bool true) ∧ Below w.heap.size w w' := by
 obtain ⟨A, n, c, rfl, hI⟩ := h.ints
 obtain ⟨B, m, d, rfl, hI2⟩ := h2.ints
 have e : m = n := by rw [← hI.len, ← hI2.len]
 subst e
 exact sameInts_any A B m c d l w hI hI2 (by rw [← hI.len]; exact hn)
end Go.Proofs.Ytodnahpegecpiaa

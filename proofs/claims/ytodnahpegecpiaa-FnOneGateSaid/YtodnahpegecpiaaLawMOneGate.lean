/- Proved: for all arguments the law FnOneGate returns true, and the arguments read behind the call as before. No condition. -/
import Derived.Test.YtodnahpegecpiaaWir
import Derived.Test.YtodnahpegecpiaaGar
import Derived.Test.YtodnahpegecpiaaPlaces
import Derived.Test.YtodnahpegecpiaaDrw
import Derived.Test.YtodnahpegecpiaaOpenS
import Derived.Test.YtodnahpegecpiaaFacts
namespace Go.Proofs.Ytodnahpegecpiaa
set_option linter.unusedSimpArgs false
set_option linter.unusedVariables false
open Go.RowKit
def oneGL : List (Int × Int × Int) := [(1, 0, 0), (1, 1, 0), (4, 0, 1)]
theorem gate3 {w : World} {g : Nat} (h : Box w g #[.int .i64 1, .int .i64 0, .int .i64 0, .int .i64 1, .int .i64 1, .int .i64 0, .int .i64 4, .int .i64 0, .int .i64 1] 74) : OwnL w g (g + 1) [(.slice (some ⟨g, 0, none⟩) 3 3, .gates oneGL)] := by
  refine ⟨by omega, h.lt, fun p hp => ?_, List.pairwise_singleton _ _⟩
  simp at hp; subst hp
  refine ⟨⟨rfl, .inr ⟨g, 3, _, rfl, Nat.le_refl _, h, Nat.le_refl _, by unfold maxLen; omega, rfl, rfl⟩⟩, fun k hk => ?_⟩
  simp [Value.ownBlock] at hk; omega
theorem one_circ : circOk oneGL [2] = true := by decide
theorem one_labs {s d : Int} (ht : tapeOk s 0 = true) (ld : lab d = true) (ho : d % 2 = 1) {va vb : Int} (hva : va = 0 ∨ va = 1) (hvb : vb = 0 ∨ vb = 1) :
    evAnd (labelFor (nth (gZs s 0 d oneGL 3) 0) d va) (labelFor (nth (gZs s 0 d oneGL 3) 1) d vb) (nth (gTs s 0 d oneGL 3) 0) (nth (gTs s 0 d oneGL 3) 1) 2 = labelFor (nth (gZs s 0 d oneGL 3) 2) d (va * vb) := by
  have z0 : nth (gZs s 0 d oneGL 3) 0 = inputZero s 0 0 := by rw [gZs_at (k := 0) (by omega)]; rfl
  have z1 : nth (gZs s 0 d oneGL 3) 1 = inputZero s 0 1 := by rw [gZs_at (k := 1) (by omega)]; rfl
  have y0 : nth (gZs s 0 d oneGL 2) 0 = inputZero s 0 0 := by rw [gZs_at (k := 0) (by omega)]; rfl
  have y1 : nth (gZs s 0 d oneGL 2) 1 = inputZero s 0 1 := by rw [gZs_at (k := 1) (by omega)]; rfl
  have z2 : nth (gZs s 0 d oneGL 3) 2 = andZ d (inputZero s 0 0) (inputZero s 0 1) ((2 : Nat) : Int) := by
    rw [gZs_at (k := 2) (by omega)]
    show andZ d (nth (gZs s 0 d oneGL 2) 0) (nth (gZs s 0 d oneGL 2) 1) ((2 : Nat) : Int) = _
    rw [y0, y1]
  obtain ⟨t0, t1⟩ := gTs_at (s := s) (a := 0) (d := d) (l := oneGL) (n := 3) (k := 2) (by omega) (by rfl)
  have t0' : nth (gTs s 0 d oneGL 3) 0 = tabG d (inputZero s 0 0) (inputZero s 0 1) ((2 : Nat) : Int) := by
    rw [← y0, ← y1]; exact t0
  have t1' : nth (gTs s 0 d oneGL 3) 1 = tabE d (inputZero s 0 0) (inputZero s 0 1) ((2 : Nat) : Int) := by
    rw [← y0, ← y1]; exact t1
  rw [z0, z1, z2, t0', t1']
  exact half_gate (n := 2) (by omega) ld ho (inputZero_lab ht (by decide)) (inputZero_lab ht (by decide)) hva hvb
set_option maxRecDepth 100000 in
set_option maxHeartbeats 10000000 in
theorem walk_FnOneGate (A : Option Addr) (n c : Nat) (w : World) (hx : Bts0 w A n) :
    Calls Try.prog 10 #[.slice A n c] w fun e w' => e = .returned (.bool true) ∧ Below w.heap.size w w' := by
  by_cases hn : (1048576 : Int) < n
  · go_enter Try.func10, Try.ntmps10
    go_wp2_with fail
    refine (big_any _ _ _ _).mono ?_
    rintro e w1 ⟨rfl, rfl⟩
    go_wp2
    go_ret
    exact ⟨rfl, Below.refl _ _⟩
  · have hB0 : Bts w A n := ⟨by omega, hx.2⟩
    go_enter Try.func10, Try.ntmps10
    go_wp2_with fail
    refine (big_any _ _ _ _).mono ?_
    rintro e w_ ⟨rfl, rfl⟩
    go_wp2_with fail
    refine (DrawPlaces_any n c A _ hB0).mono ?_
    rintro e w1 ⟨v, l, rfl, hl, ha, ho, B1⟩
    have z1 := B1.size
    obtain ⟨Bp, dp, rfl, hI⟩ := ho.reads
    rw [hl] at hI ho ⊢
    obtain ⟨gp, op, rfl, hgp, _⟩ := hI.block (by omega)
    have rp : OwnL w1 _ w1.heap.size [(.slice (some ⟨gp, op, none⟩) 12 dp, .ints l)] := OwnL.one (d := .ints l) (show OwnD _ _ _ (.ints l) by unfold OwnD; exact ho) z1
    clear hI ho
    obtain ⟨q0l, q0h⟩ := ha (nth l 0) (by rw [nth_lt (by omega)]; exact List.getElem_mem _)
    have hT : Hid (tapeOk (nth l 0) 0 = true) := by show _ = _; rw [tapeOk, show word (nth l 0) = true from inB_iff.2 ⟨by omega, by omega⟩]; rfl
    have hD : Hid (dlOk (nth l 0) 0 = true) := by show _ = _; rw [dlOk, hT.out]; rfl
    have hgar : Hid (garbOk oneGL [2] (nth l 0) 0 = true) := by show _ = _; rw [garbOk, one_circ, hD.out]; rfl
    have HL := Lib.hid hl
    clear ha hl
    go_wp2_with fail
    generalize hw2 : World.alloc _ _ = w2
    have z2 : w1.heap.size + 1 + 1 + 1 ≤ w2.heap.size := by rw [← hw2]; simp
    have B2 : Below w.heap.size w w2 := by rw [← hw2]; repeat (with_reducible (first | assumption | exact Below.refl _ _ | refine Below.alloc ?_ (by first | omega | (simp; done) | (simp; omega)) _ | refine Below.setCell ?_ (by first | omega | (simp; done) | (simp; omega)) _ | refine Below.drew ?_ | refine below_drewN ?_ _))
    have hK : ∀ k, k < w1.heap.size → w2.heap[k]? = w1.heap[k]? := by
      intro k hk; rw [← hw2]
      repeat (first | rfl | refine (Below.heap_alloc _ _ _ (by first | omega | (simp; omega))).trans ?_)
    have rp_ := rp.keepBlock (w' := w2) (by omega) (fun k h1 h2 => hK k  (by have := rp.2.1; omega))
    clear rp; have rp := rp_; clear rp_
    have xg_ : Box w2 (w1.heap.size) #[.int .i64 1, .int .i64 0, .int .i64 0, .int .i64 1, .int .i64 1, .int .i64 0, .int .i64 4, .int .i64 0, .int .i64 1] 74 := (by rw [← hw2]; exact (((Box.new (g := w1.heap.size) _ #[.int .i64 1, .int .i64 0, .int .i64 0, .int .i64 1, .int .i64 1, .int .i64 0, .int .i64 4, .int .i64 0, .int .i64 1] 74 (by simp)).alloc _).alloc _))
    have xg := xg_; clear xg_
    have xo_ : Box w2 (w1.heap.size + 1) #[.int .i64 2] 3 := (by rw [← hw2]; exact ((Box.new (g := w1.heap.size + 1) _ #[.int .i64 2] 3 (by simp)).alloc _))
    have xo := xo_; clear xo_
    have xc_ : Box w2 (w1.heap.size + 1 + 1) #[.slice (some ⟨w1.heap.size, 0, none⟩) 3 3, .slice (some ⟨w1.heap.size + 1, 0, none⟩) 1 1] 27 := (by rw [← hw2]; exact (Box.new (g := w1.heap.size + 1 + 1) _ #[.slice (some ⟨w1.heap.size, 0, none⟩) 3 3, .slice (some ⟨w1.heap.size + 1, 0, none⟩) 1 1] 27 (by simp)))
    have xc := xc_; clear xc_
    clear hw2 hK
    have rd := OwnL.then (gate3 xg) (OwnL.lit1 xo) (by omega)
    simp only [List.cons_append, List.nil_append] at rd
    have hll := HL.out
    obtain ⟨cxc_0, cxc_1, fxc_0, fxc_1⟩ := xc.two
    have l_xc_0 : w1.heap.size + 1 + 1 < w2.heap.size := by omega
    go_wp2_with fail
    clear cxc_0 cxc_1 fxc_0 fxc_1 l_xc_0
    refine wp_region_M [10] (w2.heap.size) 12 (S := fun W => Below w.heap.size w W ∧ Below w2.heap.size w2 W ∧ W.cell? ⟨w1.heap.size + 1 + 1, 0, none⟩ = some (.slice (some ⟨w1.heap.size, 0, none⟩) 3 3) ∧ W.cell? ⟨w1.heap.size + 1 + 1, 1, none⟩ = some (.slice (some ⟨w1.heap.size + 1, 0, none⟩) 1 1) ∧ W.cell? ⟨gp, op, none⟩ = some (.int .i64 (nth l 0))) (by kernel_rfl) (by rfl) (fun W hW => ⟨Below.trans (b := _) (by repeat (with_reducible (first | assumption | exact Below.refl _ _ | refine Below.alloc ?_ (by first | omega | (simp; done) | (simp; omega)) _ | refine Below.setCell ?_ (by first | omega | (simp; done) | (simp; omega)) _ | refine Below.drew ?_ | refine below_drewN ?_ _))) (Below.mono hW (by first | omega | (simp [size_drew]; done) | (simp [size_drew]; omega))), Below.trans (b := _) (by repeat (with_reducible (first | assumption | exact Below.refl _ _ | refine Below.alloc ?_ (by first | omega | (simp; done) | (simp; omega)) _ | refine Below.setCell ?_ (by first | omega | (simp; done) | (simp; omega)) _ | refine Below.drew ?_ | refine below_drewN ?_ _))) (Below.mono hW (by first | omega | (simp [size_drew]; done) | (simp [size_drew]; omega))), (Box.below xc.drew hW (by first | omega | (simp [size_drew]; done) | (simp [size_drew]; omega))).two.1, (Box.below xc.drew hW (by first | omega | (simp [size_drew]; done) | (simp [size_drew]; omega))).two.2.1, (OwnL.cellAt ((rp.drew).below hW) 0 (by omega))⟩) (by first | omega | (simp [size_drew]; done) | (simp [size_drew]; omega)) (fun hS hG => ?_)
    (try dsimp only at hS)
    refine pendM 9 5 #[.int .i64 0, .slice none 0 0, .slice none 0 0] 33 (by simp only [List.getElem?_toArray, List.getElem?_cons_succ, List.getElem?_cons_zero] <;> rfl) (by kernel_rfl) (by exact fun _ _ _ _ h => h) (by intro a W; unfold ptr; go_simp; (first | done | rfl)) hG ?_
    (refine tkM 0 hG hS ?_; (try simp only [Act.put, List.setIfInBounds_toArray, List.set_cons_zero, List.set_cons_succ]))
    (refine tkM 1 hG hS ?_; (try simp only [Act.put, List.setIfInBounds_toArray, List.set_cons_zero, List.set_cons_succ]))
    (refine tkM 2 hG hS ?_; (try simp only [Act.put, List.setIfInBounds_toArray, List.set_cons_zero, List.set_cons_succ]))
    (refine tkM 3 hG hS ?_; (try simp only [Act.put, List.setIfInBounds_toArray, List.set_cons_zero, List.set_cons_succ]))
    (refine tkM 4 hG hS ?_; (try simp only [Act.put, List.setIfInBounds_toArray, List.set_cons_zero, List.set_cons_succ]))
    refine callM hG (i := 5) (by simp only [List.getElem?_toArray, List.getElem?_cons_succ, List.getElem?_cons_zero] <;> rfl) (by kernel_rfl) (by rfl) (by rfl) (by intro W hW; have hSw := hS W hW; (try dsimp only at hSw); go_simp; (first | done | with_reducible rfl | exact ⟨rfl, rfl⟩)) ?_
    intro w3 b3
    have B3 : Below w.heap.size w w3 := (hS w3 b3).1
    have z3 := Below.size b3
    (try simp only [World.size_alloc, World.size_setCell, size_drew] at z3)
    have rp_ := (rp.drew.below b3)
    clear rp; have rp := rp_; clear rp_
    have rd_ := (rd.drew.below b3)
    clear rd; have rd := rd_; clear rd_
    have xc_ : Box w3 (w1.heap.size + 1 + 1) #[.slice (some ⟨w1.heap.size, 0, none⟩) 3 3, .slice (some ⟨w1.heap.size + 1, 0, none⟩) 1 1] 27 := (Box.b xc.drew b3)
    clear xc; have xc := xc_; clear xc_
    clear hS hG
    go_at_call 56
    refine (sGarble_L rd.rd (by decide) (by decide) (nth l 0) 0).mono ?_
    rintro e w4 ⟨pA1, pn1, pc1, pA2, pn2, pc2, rfl, rg, b4⟩
    refine ⟨_, rfl, b4, fun hG => ?_⟩
    have z4 := Below.size b4
    have B4 : Below w.heap.size w w4 := Below.t b4
    have rp_ := (rp.below b4)
    clear rp; have rp := rp_; clear rp_
    have rd_ := (rd.below b4)
    clear rd; have rd := rd_; clear rd_
    have xc_ : Box w4 (w1.heap.size + 1 + 1) #[.slice (some ⟨w1.heap.size, 0, none⟩) 3 3, .slice (some ⟨w1.heap.size + 1, 0, none⟩) 1 1] 27 := (Box.b xc b4)
    clear xc; have xc := xc_; clear xc_
    (try simp only [Act.put, List.setIfInBounds_toArray, List.set_cons_zero, List.set_cons_succ])
    have hS : ∀ W, Later w4 W → (Below w.heap.size w W ∧ Below w4.heap.size w4 W ∧ W.cell? ⟨w1.heap.size + 1 + 1, 0, none⟩ = some (.slice (some ⟨w1.heap.size, 0, none⟩) 3 3) ∧ W.cell? ⟨w1.heap.size + 1 + 1, 1, none⟩ = some (.slice (some ⟨w1.heap.size + 1, 0, none⟩) 1 1) ∧ W.cell? ⟨gp, op, none⟩ = some (.int .i64 (nth l 0))) := fun W hW => ⟨Below.trans (b := _) (by repeat (with_reducible (first | assumption | exact Below.refl _ _ | refine Below.alloc ?_ (by first | omega | (simp; done) | (simp; omega)) _ | refine Below.setCell ?_ (by first | omega | (simp; done) | (simp; omega)) _ | refine Below.drew ?_ | refine below_drewN ?_ _))) (Below.mono hW (by first | omega | (simp [size_drew]; done) | (simp [size_drew]; omega))), Below.trans (b := _) (by repeat (with_reducible (first | assumption | exact Below.refl _ _ | refine Below.alloc ?_ (by first | omega | (simp; done) | (simp; omega)) _ | refine Below.setCell ?_ (by first | omega | (simp; done) | (simp; omega)) _ | refine Below.drew ?_ | refine below_drewN ?_ _))) (Below.mono hW (by first | omega | (simp [size_drew]; done) | (simp [size_drew]; omega))), (Box.below xc hW (by first | omega | (simp [size_drew]; done) | (simp [size_drew]; omega))).two.1, (Box.below xc hW (by first | omega | (simp [size_drew]; done) | (simp [size_drew]; omega))).two.2.1, (OwnL.cellAt ((rp).below hW) 0 (by omega))⟩
    (refine tkM 6 hG hS ?_; (try simp only [Act.put, List.setIfInBounds_toArray, List.set_cons_zero, List.set_cons_succ]))
    (refine tkM 7 hG hS ?_; (try simp only [Act.put, List.setIfInBounds_toArray, List.set_cons_zero, List.set_cons_succ]))
    (refine tkY 8 hG ?_; (try simp only [Act.put, List.setIfInBounds_toArray, List.set_cons_zero, List.set_cons_succ]))
    refine storeM (z := 10) (by simp only [List.getElem?_toArray, List.getElem?_cons_succ, List.getElem?_cons_zero] <;> rfl) (by kernel_rfl) (by rfl) (by rfl) ?_
    intro w5 b5
    have B5 : Below w.heap.size w w5 := (hS w5 b5).1
    have z5 := Below.size b5
    (try simp only [World.size_alloc, World.size_setCell, size_drew] at z5)
    have rp_ := (rp.below b5)
    clear rp; have rp := rp_; clear rp_
    have rd_ := (rd.below b5)
    clear rd; have rd := rd_; clear rd_
    have rg_ := (rg.below b5)
    clear rg; have rg := rg_; clear rg_
    have xc_ : Box w5 (w1.heap.size + 1 + 1) #[.slice (some ⟨w1.heap.size, 0, none⟩) 3 3, .slice (some ⟨w1.heap.size + 1, 0, none⟩) 1 1] 27 := (Box.b xc b5)
    clear xc; have xc := xc_; clear xc_
    clear hS hG
    refine Zc.cons fun gxp xp nxp => ?_
    have nxp_0 := nxp (w3.heap.size, w4.heap.size) (by simp)
    dsimp only at nxp_0 xp
    have nxp_1 := nxp (0, w2.heap.size) (by simp)
    dsimp only at nxp_1 xp
    clear nxp
    refine Zc.nil ?_
    (try unfold ptr)
    (try simp only [Act.put, List.setIfInBounds_toArray, List.set_cons_zero, List.set_cons_succ])
    have lxp := xp.lt
    obtain ⟨cxp_0, cxp_1, cxp_2, fxp_0, fxp_1, fxp_2⟩ := xp.three
    refine ⟨_, by go_simp; (first | done | with_reducible rfl | exact ⟨rfl, rfl⟩), ?_⟩
    (try simp only [Act.put, List.setIfInBounds_toArray, List.set_cons_zero, List.set_cons_succ])
    refine onlyAny (i := 11) (by simp only [List.getElem?_toArray, List.getElem?_cons_succ, List.getElem?_cons_zero] <;> rfl) (by kernel_rfl) (by rfl) (by go_simp; (first | done | with_reducible rfl | exact ⟨rfl, rfl⟩)) ?_
    (try simp only [Act.put, List.setIfInBounds_toArray, List.set_cons_zero, List.set_cons_succ])
    refine wpAny_done (by kernel_rfl) ?_ _
    clear cxp_0 cxp_1 cxp_2 fxp_0 fxp_1 fxp_2
    generalize hw6 : World.setCell _ _ _ = w6
    have z6 : w5.heap.size ≤ w6.heap.size := by rw [← hw6]; simp
    have B6 : Below w.heap.size w w6 := by rw [← hw6]; repeat (with_reducible (first | assumption | exact Below.refl _ _ | refine Below.alloc ?_ (by first | omega | (simp; done) | (simp; omega)) _ | refine Below.setCell ?_ (by first | omega | (simp; done) | (simp; omega)) _ | refine Below.drew ?_ | refine below_drewN ?_ _))
    have hK : ∀ k, k ≠ gxp → k < w5.heap.size → w6.heap[k]? = w5.heap[k]? := by
      intro k h0 _; rw [← hw6]
      repeat (first | rfl | refine (Below.heap_setCell _ _ _ _ (by first | exact h0)).trans ?_)
    have rp_ := rp.keepBlock z6 (fun k h1 h2 => hK k (by omega) (by have := rp.2.1; omega))
    clear rp; have rp := rp_; clear rp_
    have rd_ := rd.keepBlock z6 (fun k h1 h2 => hK k (by omega) (by have := rd.2.1; omega))
    clear rd; have rd := rd_; clear rd_
    have rg_ := rg.keepBlock z6 (fun k h1 h2 => hK k (by omega) (by have := rg.2.1; omega))
    clear rg; have rg := rg_; clear rg_
    have xc_ : Box w6 (w1.heap.size + 1 + 1) #[.slice (some ⟨w1.heap.size, 0, none⟩) 3 3, .slice (some ⟨w1.heap.size + 1, 0, none⟩) 1 1] 27 := (by rw [← hw6]; exact (((xc.far (by omega)).far (by omega)).far (by omega)))
    clear xc; have xc := xc_; clear xc_
    have xp_ : Box w6 (gxp) #[.int .i64 (garD oneGL [2] (nth l 0) 0), .slice pA1 pn1 pc1, .slice pA2 pn2 pc2] 33 := (by rw [← hw6]; exact (((xp.setAt (i := 0) (v := .int .i64 (garD oneGL [2] (nth l 0) 0)) (ds := #[.int .i64 (garD oneGL [2] (nth l 0) 0), .slice none 0 0, .slice none 0 0]) (by simp)).setAt (i := 1) (v := .slice pA1 pn1 pc1) (ds := #[.int .i64 (garD oneGL [2] (nth l 0) 0), .slice pA1 pn1 pc1, .slice none 0 0]) (by simp)).setAt (i := 2) (v := .slice pA2 pn2 pc2) (ds := #[.int .i64 (garD oneGL [2] (nth l 0) 0), .slice pA1 pn1 pc1, .slice pA2 pn2 pc2]) (by simp)))
    clear xp; have xp := xp_; clear xp_
    clear hw6 hK
    (try rw [hgar.out])
    have hz3 := Lib.hid (show (garZ oneGL [2] (nth l 0) 0).length = 3 by rw [garZ_yes hgar.out, gZs_len]; rfl)
    have ht2 := Lib.hid (show (garT oneGL [2] (nth l 0) 0).length = 2 by rw [garT_yes hgar.out, gTs_len]; rfl)
    obtain rfl : pn1 = 3 := by rw [ownLen (A := pA1) (n := pn1) (c := pc1) (l := garZ oneGL [2] (nth l 0) 0) rg (by simp)]; exact hz3.out
    obtain rfl : pn2 = 2 := by rw [ownLen (A := pA2) (n := pn2) (c := pc2) (l := garT oneGL [2] (nth l 0) 0) rg (by simp)]; exact ht2.out
    obtain ⟨z1a, z1o, rfl, z1l⟩ := ownSome (A := pA1) (n := 3) (c := pc1) (l := garZ oneGL [2] (nth l 0) 0) rg (by simp) (by rw [hz3.out]; omega)
    obtain ⟨t1a, t1o, rfl, t1l⟩ := ownSome (A := pA2) (n := 2) (c := pc2) (l := garT oneGL [2] (nth l 0) 0) rg (by simp) (by rw [ht2.out]; omega)
    have hld := Lib.hid (show lab (garD oneGL [2] (nth l 0) 0) = true by rw [garD_yes hgar.out]; exact deltaOf_lab _ _)
    go_wp2_with fail
    go_loopw [7] (fun i wr => ∃ (k l0 h0 gx : Nat), k ≤ 4 ∧ i = .int .i64 k ∧ Hid (OwnL wr l0 h0 [(.slice (some ⟨z1a, z1o, none⟩) 3 pc1, .ints (garZ oneGL [2] (nth l 0) 0)), (.slice (some ⟨t1a, t1o, none⟩) 2 pc2, .ints (garT oneGL [2] (nth l 0) 0))]) ∧ Hid (Box wr (gxp) #[.int .i64 (garD oneGL [2] (nth l 0) 0), .slice (some ⟨z1a, z1o, none⟩) 3 pc1, .slice (some ⟨t1a, t1o, none⟩) 2 pc2] 33) ∧ Below w.heap.size w wr) (fun i wr => 4 - (intOf i).toNat)
    case atStart => exact ⟨0, _, _, 0, by omega, rfl, rg, xp, B6⟩
    case round =>
      obtain ⟨k, l0, h0, gx, hk, rfl, rg, xp, B9⟩ := hrel
      obtain ⟨w9, hw9⟩ : ∃ x, x = wr := ⟨wr, rfl⟩
      subst hw9
      have rg := rg.out
      have xp := xp.out
      have zb := xp.lt
      have z9 := B9.size
      by_cases hlt : k < 4
      · obtain ⟨va, hva⟩ : ∃ va : Int, Hid (va = (k : Int) % 2) := ⟨_, rfl⟩
        obtain ⟨vb, hvb⟩ : ∃ vb : Int, Hid (vb = (k : Int) / 2) := ⟨_, rfl⟩
        have e1 : (k : Int).tmod 2 = va := by rw [hva.out]; exact Int.tmod_eq_emod_of_nonneg (by omega)
        have e2 : (k : Int).tdiv 2 = vb := by rw [hvb.out]; exact Int.tdiv_eq_ediv_of_nonneg (by omega)
        have v1 := Lib.hid (show va = 0 ∨ va = 1 by have := hva.out; omega)
        have v2 := Lib.hid (show vb = 0 ∨ vb = 1 by have := hvb.out; omega)
        have hwb : IntKind.i64.wrap vb = vb := by (rw [IntKind.wrap_i64]; rcases v2.out with e3 | e3 <;> rw [e3] <;> (first | decide | rfl))
        have hw : IntKind.i64.wrap (va * vb) = va * vb := by (rw [IntKind.wrap_i64]; rcases v1.out with e | e <;> rcases v2.out with e3 | e3 <;> rw [e, e3] <;> (first | decide | rfl))
        have hne : (evAnd (labelFor (nth (garZ oneGL [2] (nth l 0) 0) 0) (garD oneGL [2] (nth l 0) 0) va) (labelFor (nth (garZ oneGL [2] (nth l 0) 0) 1) (garD oneGL [2] (nth l 0) 0) vb) (nth (garT oneGL [2] (nth l 0) 0) 0) (nth (garT oneGL [2] (nth l 0) 0) 1) 2 != labelFor (nth (garZ oneGL [2] (nth l 0) 0) 2) (garD oneGL [2] (nth l 0) 0) (va * vb)) = false := by
          rw [garZ_yes hgar.out, garT_yes hgar.out, garD_yes hgar.out]
          have := one_labs (d := deltaOf (nth l 0) 0) hT.out (deltaOf_lab _ _) (deltaOf_odd hD.out) v1.out v2.out
          rw [show oneGL.length = 3 from rfl, this]; simp
        obtain ⟨cxp_0, cxp_1, cxp_2, fxp_0, fxp_1, fxp_2⟩ := xp.three
        have l_xp_0 : gxp < w9.heap.size := by omega
        go_wp2_with fail
        clear cxp_0 cxp_1 cxp_2 fxp_0 fxp_1 fxp_2 l_xp_0
        refine wp_region_held_drew (S := fun W => W.cell? ⟨gxp, 0, none⟩ = some (.int .i64 (garD oneGL [2] (nth l 0) 0)) ∧ W.cell? ⟨gxp, 1, none⟩ = some (.slice (some ⟨z1a, z1o, none⟩) 3 pc1) ∧ W.cell? ⟨gxp, 2, none⟩ = some (.slice (some ⟨t1a, t1o, none⟩) 2 pc2) ∧ W.cell? ⟨z1a, z1o, none⟩ = some (.int .i64 (nth (garZ oneGL [2] (nth l 0) 0) 0))) (by kernel_rfl) ⟨xp.drew.three.1, xp.drew.three.2.1, xp.drew.three.2.2.1, (ownCell (l := garZ oneGL [2] (nth l 0) 0) (rg.drew) (List.mem_cons_self) 0 (by rw [hz3.out]; omega))⟩ (fun hS => ?_)
        (refine tk 0 hS ?_; (try simp only [Act.put, List.setIfInBounds_toArray, List.set_cons_zero, List.set_cons_succ]))
        (refine tk 1 hS ?_; (try simp only [Act.put, List.setIfInBounds_toArray, List.set_cons_zero, List.set_cons_succ]))
        (refine tk 2 hS ?_; (try simp only [Act.put, List.setIfInBounds_toArray, List.set_cons_zero, List.set_cons_succ]))
        (refine tk 3 hS ?_; (try simp only [Act.put, List.setIfInBounds_toArray, List.set_cons_zero, List.set_cons_succ]))
        (refine tk 4 hS ?_; (try simp only [Act.put, List.setIfInBounds_toArray, List.set_cons_zero, List.set_cons_succ]))
        (refine tk 5 hS ?_; (try simp only [Act.put, List.setIfInBounds_toArray, List.set_cons_zero, List.set_cons_succ]))
        (refine tk 6 hS ?_; (try simp only [Act.put, List.setIfInBounds_toArray, List.set_cons_zero, List.set_cons_succ]))
        (refine tk 7 hS ?_; (try simp only [Act.put, List.setIfInBounds_toArray, List.set_cons_zero, List.set_cons_succ]))
        refine on 8 ?_
        refine callH (by go_simp; (first | done | with_reducible rfl | exact ⟨rfl, rfl⟩)) ?_
        go_at_call 29
        refine (sLabelFor_any _ _ _ _).mono ?_
        rintro e w_ ⟨rfl, rfl⟩
        refine ⟨_, rfl, hS, fun hS => ?_⟩
        (try simp only [Act.put, List.setIfInBounds_toArray, List.set_cons_zero, List.set_cons_succ])
        (refine tk 9 hS ?_; (try simp only [Act.put, List.setIfInBounds_toArray, List.set_cons_zero, List.set_cons_succ]))
        clear hS
        refine wpAnyH_done (by kernel_rfl) ?_ _
        generalize hw10 : World.drew _ = w10
        have z10 : w9.heap.size ≤ w10.heap.size := by rw [← hw10]; simp [size_drew]
        have B10 : Below w.heap.size w w10 := by rw [← hw10]; repeat (with_reducible (first | assumption | exact Below.refl _ _ | refine Below.alloc ?_ (by first | omega | (simp; done) | (simp; omega)) _ | refine Below.setCell ?_ (by first | omega | (simp; done) | (simp; omega)) _ | refine Below.drew ?_ | refine below_drewN ?_ _))
        have hK : ∀ k, k < w9.heap.size → w10.heap[k]? = w9.heap[k]? := by
          intro k hk; rw [← hw10]
          repeat (first | rfl | refine (Below.heap_alloc _ _ _ (by first | omega | (simp; omega))).trans ?_)
        have rg_ := rg.keepBlock (w' := w10) (by omega) (fun k h1 h2 => hK k  (by have := rg.2.1; omega))
        clear rg; have rg := rg_; clear rg_
        have xp_ : Box w10 (gxp) #[.int .i64 (garD oneGL [2] (nth l 0) 0), .slice (some ⟨z1a, z1o, none⟩) 3 pc1, .slice (some ⟨t1a, t1o, none⟩) 2 pc2] 33 := (by rw [← hw10]; exact xp)
        clear xp; have xp := xp_; clear xp_
        clear hw10 hK
        obtain ⟨cxp_0, cxp_1, cxp_2, fxp_0, fxp_1, fxp_2⟩ := xp.three
        have l_xp_0 : gxp < w10.heap.size := by omega
        go_wp2_with fail
        clear cxp_0 cxp_1 cxp_2 fxp_0 fxp_1 fxp_2 l_xp_0
        refine wp_region_held_drew (S := fun W => W.cell? ⟨gxp, 0, none⟩ = some (.int .i64 (garD oneGL [2] (nth l 0) 0)) ∧ W.cell? ⟨gxp, 1, none⟩ = some (.slice (some ⟨z1a, z1o, none⟩) 3 pc1) ∧ W.cell? ⟨gxp, 2, none⟩ = some (.slice (some ⟨t1a, t1o, none⟩) 2 pc2) ∧ W.cell? ⟨z1a, z1o + 1, none⟩ = some (.int .i64 (nth (garZ oneGL [2] (nth l 0) 0) 1))) (by kernel_rfl) ⟨xp.drew.three.1, xp.drew.three.2.1, xp.drew.three.2.2.1, (ownCell (l := garZ oneGL [2] (nth l 0) 0) (rg.drew) (List.mem_cons_self) 1 (by rw [hz3.out]; omega))⟩ (fun hS => ?_)
        (refine tk 0 hS ?_; (try simp only [Act.put, List.setIfInBounds_toArray, List.set_cons_zero, List.set_cons_succ]))
        (refine tk 1 hS ?_; (try simp only [Act.put, List.setIfInBounds_toArray, List.set_cons_zero, List.set_cons_succ]))
        (refine tk 2 hS ?_; (try simp only [Act.put, List.setIfInBounds_toArray, List.set_cons_zero, List.set_cons_succ]))
        (refine tk 3 hS ?_; (try simp only [Act.put, List.setIfInBounds_toArray, List.set_cons_zero, List.set_cons_succ]))
        (refine tk 4 hS ?_; (try simp only [Act.put, List.setIfInBounds_toArray, List.set_cons_zero, List.set_cons_succ]))
        (refine tk 5 hS ?_; (try simp only [Act.put, List.setIfInBounds_toArray, List.set_cons_zero, List.set_cons_succ]))
        (refine tk 6 hS ?_; (try simp only [Act.put, List.setIfInBounds_toArray, List.set_cons_zero, List.set_cons_succ]))
        (refine tk 7 hS ?_; (try simp only [Act.put, List.setIfInBounds_toArray, List.set_cons_zero, List.set_cons_succ]))
        refine on 8 ?_
        refine callH (by go_simp; (first | done | with_reducible rfl | exact ⟨rfl, rfl⟩)) ?_
        go_at_call 29
        refine (sLabelFor_any _ _ _ _).mono ?_
        rintro e w_ ⟨rfl, rfl⟩
        refine ⟨_, rfl, hS, fun hS => ?_⟩
        (try simp only [Act.put, List.setIfInBounds_toArray, List.set_cons_zero, List.set_cons_succ])
        (refine tk 9 hS ?_; (try simp only [Act.put, List.setIfInBounds_toArray, List.set_cons_zero, List.set_cons_succ]))
        clear hS
        refine wpAnyH_done (by kernel_rfl) ?_ _
        generalize hw11 : World.drew _ = w11
        have z11 : w10.heap.size ≤ w11.heap.size := by rw [← hw11]; simp [size_drew]
        have B11 : Below w.heap.size w w11 := by rw [← hw11]; repeat (with_reducible (first | assumption | exact Below.refl _ _ | refine Below.alloc ?_ (by first | omega | (simp; done) | (simp; omega)) _ | refine Below.setCell ?_ (by first | omega | (simp; done) | (simp; omega)) _ | refine Below.drew ?_ | refine below_drewN ?_ _))
        have hK : ∀ k, k < w10.heap.size → w11.heap[k]? = w10.heap[k]? := by
          intro k hk; rw [← hw11]
          repeat (first | rfl | refine (Below.heap_alloc _ _ _ (by first | omega | (simp; omega))).trans ?_)
        have rg_ := rg.keepBlock (w' := w11) (by omega) (fun k h1 h2 => hK k  (by have := rg.2.1; omega))
        clear rg; have rg := rg_; clear rg_
        have xp_ : Box w11 (gxp) #[.int .i64 (garD oneGL [2] (nth l 0) 0), .slice (some ⟨z1a, z1o, none⟩) 3 pc1, .slice (some ⟨t1a, t1o, none⟩) 2 pc2] 33 := (by rw [← hw11]; exact xp)
        clear xp; have xp := xp_; clear xp_
        clear hw11 hK
        obtain ⟨cxp_0, cxp_1, cxp_2, fxp_0, fxp_1, fxp_2⟩ := xp.three
        have l_xp_0 : gxp < w11.heap.size := by omega
        go_wp2_with fail
        clear cxp_0 cxp_1 cxp_2 fxp_0 fxp_1 fxp_2 l_xp_0
        refine wp_region_held_drew (S := fun W => W.cell? ⟨gxp, 0, none⟩ = some (.int .i64 (garD oneGL [2] (nth l 0) 0)) ∧ W.cell? ⟨gxp, 1, none⟩ = some (.slice (some ⟨z1a, z1o, none⟩) 3 pc1) ∧ W.cell? ⟨gxp, 2, none⟩ = some (.slice (some ⟨t1a, t1o, none⟩) 2 pc2) ∧ W.cell? ⟨t1a, t1o, none⟩ = some (.int .i64 (nth (garT oneGL [2] (nth l 0) 0) 0)) ∧ W.cell? ⟨t1a, t1o + 1, none⟩ = some (.int .i64 (nth (garT oneGL [2] (nth l 0) 0) 1)) ∧ W.cell? ⟨z1a, z1o + 2, none⟩ = some (.int .i64 (nth (garZ oneGL [2] (nth l 0) 0) 2))) (by kernel_rfl) ⟨xp.drew.three.1, xp.drew.three.2.1, xp.drew.three.2.2.1, (ownCell (l := garT oneGL [2] (nth l 0) 0) (rg.drew) (List.mem_cons_of_mem _ List.mem_cons_self) 0 (by rw [ht2.out]; omega)), (ownCell (l := garT oneGL [2] (nth l 0) 0) (rg.drew) (List.mem_cons_of_mem _ List.mem_cons_self) 1 (by rw [ht2.out]; omega)), (ownCell (l := garZ oneGL [2] (nth l 0) 0) (rg.drew) (List.mem_cons_self) 2 (by rw [hz3.out]; omega))⟩ (fun hS => ?_)
        (refine tk 0 hS ?_; (try simp only [Act.put, List.setIfInBounds_toArray, List.set_cons_zero, List.set_cons_succ]))
        (refine tk 1 hS ?_; (try simp only [Act.put, List.setIfInBounds_toArray, List.set_cons_zero, List.set_cons_succ]))
        (refine tk 2 hS ?_; (try simp only [Act.put, List.setIfInBounds_toArray, List.set_cons_zero, List.set_cons_succ]))
        (refine tk 3 hS ?_; (try simp only [Act.put, List.setIfInBounds_toArray, List.set_cons_zero, List.set_cons_succ]))
        (refine tk 4 hS ?_; (try simp only [Act.put, List.setIfInBounds_toArray, List.set_cons_zero, List.set_cons_succ]))
        (refine tk 5 hS ?_; (try simp only [Act.put, List.setIfInBounds_toArray, List.set_cons_zero, List.set_cons_succ]))
        (refine tk 6 hS ?_; (try simp only [Act.put, List.setIfInBounds_toArray, List.set_cons_zero, List.set_cons_succ]))
        (refine tk 7 hS ?_; (try simp only [Act.put, List.setIfInBounds_toArray, List.set_cons_zero, List.set_cons_succ]))
        (refine tk 8 hS ?_; (try simp only [Act.put, List.setIfInBounds_toArray, List.set_cons_zero, List.set_cons_succ]))
        (refine tk 9 hS ?_; (try simp only [Act.put, List.setIfInBounds_toArray, List.set_cons_zero, List.set_cons_succ]))
        (refine tk 11 hS ?_; (try simp only [Act.put, List.setIfInBounds_toArray, List.set_cons_zero, List.set_cons_succ]))
        (refine tk 12 hS ?_; (try simp only [Act.put, List.setIfInBounds_toArray, List.set_cons_zero, List.set_cons_succ]))
        (refine tk 13 hS ?_; (try simp only [Act.put, List.setIfInBounds_toArray, List.set_cons_zero, List.set_cons_succ]))
        (refine tk 14 hS ?_; (try simp only [Act.put, List.setIfInBounds_toArray, List.set_cons_zero, List.set_cons_succ]))
        (refine tk 15 hS ?_; (try simp only [Act.put, List.setIfInBounds_toArray, List.set_cons_zero, List.set_cons_succ]))
        (refine tk 16 hS ?_; (try simp only [Act.put, List.setIfInBounds_toArray, List.set_cons_zero, List.set_cons_succ]))
        (refine tk 17 hS ?_; (try simp only [Act.put, List.setIfInBounds_toArray, List.set_cons_zero, List.set_cons_succ]))
        (refine tk 18 hS ?_; (try simp only [Act.put, List.setIfInBounds_toArray, List.set_cons_zero, List.set_cons_succ]))
        (refine tk 19 hS ?_; (try simp only [Act.put, List.setIfInBounds_toArray, List.set_cons_zero, List.set_cons_succ]))
        (refine tk 20 hS ?_; (try simp only [Act.put, List.setIfInBounds_toArray, List.set_cons_zero, List.set_cons_succ]))
        (refine tk 21 hS ?_; (try simp only [Act.put, List.setIfInBounds_toArray, List.set_cons_zero, List.set_cons_succ]))
        refine on 10 ?_
        refine callH (by go_simp; (first | done | with_reducible rfl | exact ⟨rfl, rfl⟩)) ?_
        go_at_call 33
        refine (iEvalAnd_any _ _ _ _ _ _).mono ?_
        rintro e w12 ⟨rfl, b12⟩
        clear hS
        have z12 := Below.size b12
        (try simp only [World.size_alloc, World.size_setCell, size_drew] at z12)
        have B12 : Below w.heap.size w w12 := Below.t b12
        have rg_ := (rg.drew.below b12)
        clear rg; have rg := rg_; clear rg_
        have xp_ : Box w12 (gxp) #[.int .i64 (garD oneGL [2] (nth l 0) 0), .slice (some ⟨z1a, z1o, none⟩) 3 pc1, .slice (some ⟨t1a, t1o, none⟩) 2 pc2] 33 := (Box.b xp.drew b12)
        clear xp; have xp := xp_; clear xp_
        refine ⟨_, rfl, ⟨xp.three.1, xp.three.2.1, xp.three.2.2.1, (ownCell (l := garT oneGL [2] (nth l 0) 0) (rg) (List.mem_cons_of_mem _ List.mem_cons_self) 0 (by rw [ht2.out]; omega)), (ownCell (l := garT oneGL [2] (nth l 0) 0) (rg) (List.mem_cons_of_mem _ List.mem_cons_self) 1 (by rw [ht2.out]; omega)), (ownCell (l := garZ oneGL [2] (nth l 0) 0) (rg) (List.mem_cons_self) 2 (by rw [hz3.out]; omega))⟩, fun hS => ?_⟩
        (try simp only [Act.put, List.setIfInBounds_toArray, List.set_cons_zero, List.set_cons_succ])
        refine on 22 ?_
        refine callH (by go_simp; (first | done | with_reducible rfl | exact ⟨rfl, rfl⟩)) ?_
        go_at_call 29
        refine (sLabelFor_any _ _ _ _).mono ?_
        rintro e w_ ⟨rfl, rfl⟩
        refine ⟨_, rfl, hS, fun hS => ?_⟩
        (try simp only [Act.put, List.setIfInBounds_toArray, List.set_cons_zero, List.set_cons_succ])
        (refine tk 23 hS ?_; (try simp only [Act.put, List.setIfInBounds_toArray, List.set_cons_zero, List.set_cons_succ]))
        clear hS
        refine wpAnyH_done (by kernel_rfl) ?_ _
        go_wp2
        go_roundw
        case rel => exact ⟨k + 1, _, _, 0, by omega, by go_num, rg, xp, B12⟩
        case measure => simp [intOf]; omega
      · have hkn : ¬ (k : Int) < 4 := by omega
        go_wp2
        go_ret
        exact ⟨rfl, B9⟩
end Go.Proofs.Ytodnahpegecpiaa
namespace Go.Proofs.Ytodnahpegecpiaa
set_option linter.unusedSimpArgs false
set_option linter.unusedVariables false
open Go.ChangeShapes Go.WideShapes Go.ChangeAt Go.RowKit
set_option maxRecDepth 100000 in
theorem lifted_FnOneGate (os : Os) (started : os.Started) (H : Type) (enc : TypeId × Value → H) :
    ReturnsInHanded {} Try.checked os 10 .any (Rows.fnOneGateSpec.pre6 enc Try.prog Try.f10 Rows.fnOneGateRow.domain false) (Rows.fnOneGateSpec.post enc Try.prog Try.f10 false true false false) := by
  refine returnsInHanded_of_change (C := Try.checked) ownKnob_none started (by kernel_rfl) Try.func10
    (ChangeSpec.witness6 (enc := enc) (C := Try.checked) false ⟨#[], #[.slice none 0 0], []⟩ 8 (by kernel_rfl) (by kernel_rfl) (by kernel_rfl) (by kernel_rfl)) ?_
  intro W base args ds gs before hval0 hW hcnd _
  have hval : ∀ (j : Nat) t v, Try.f10.params[j]? = some t → args[j]? = some v → Value.okWide Try.prog W .any base t v := hval0
  have hW2 := hW
  obtain ⟨p, q, hA0, hV, rfl, hfz, hnd⟩ := hW
  have hA : DataW.TrodAll enc Try.prog W 0 (fun _ => true) true Try.f10.params.toList args.toList ds p := hA0
  rw [Try.params10] at hA hval
  obtain ⟨v0, vs0, d0, ds0, p0, q0, hargs, rfl, rfl, h0, r0⟩ := trodAll_cons hA
  obtain ⟨rfl, rfl, rfl⟩ := trodAll_nil r0
  obtain rfl : args = #[v0] := by cases args; simp_all
  obtain ⟨rfl, rfl⟩ := trodVars_none hV
  have k0 := h0
  have lt0 : ∀ x ∈ p0, x.block < W.heap.size := by obtain ⟨m, hm⟩ := k0; exact DataW.trod_lt m _ _ _ hm
  obtain ⟨A0, n0, c0, rfl, hx0⟩ := open_Bytes (hval 0 22 v0 rfl rfl) h0
  clear hA0 hval0
  refine (walk_FnOneGate A0 n0 c0 W hx0).mono fun e W2 ⟨he, bel⟩ => ?_
  subst he
  exact ⟨_, rfl, _, _, _, [], _, [], hW2, trodAll_mk1 (shut_bool Try.underlying4 _), (trodAll_cons_mk (Below.trod laidOut_yes (by kernel_rfl) (of_decide_eq_true (by kernel_rfl)) k0 bel lt0) trodAll_mk0), rfl, bel.frame _, fun h => by cases h⟩
theorem facts_FnOneGate : joinedFacts Try.prog 10 Try.f10 Rows.fnOneGateSpec Rows.fnOneGateRow = true := by
  unfold joinedFacts
  rw [mayEnter_yes, liftsFinal_no, make_cut]
  kernel_rfl
theorem wrap_FnOneGate : Try.f10.isWrapper Try.prog Rows.fnOneGateRow.wrapper Rows.fnOneGateRow.mainSum := by
  unfold Func.isWrapper
  rw [if_neg (of_decide_eq_false (by kernel_rfl))]
  exact ⟨rfl, rfl⟩
theorem inst_FnOneGate : Try.f10.isInstance Try.prog Rows.fnOneGateRow.origin Rows.fnOneGateRow.targs := of_decide_eq_true (by kernel_rfl)
theorem named_FnOneGate : Try.prog.funcNamed Rows.fnOneGateRow.func = some 10 := by kernel_rfl
theorem FnOneGate_holds : Rows.FnOneGateSaid :=
  OpenClaim.holds_of_wide 10 Try.f10 rfl rfl rfl rfl rfl rfl rfl ⟨rfl, rfl, rfl, rfl, rfl⟩ rfl rfl rfl rfl rfl named_FnOneGate Try.func10 facts_FnOneGate
    inst_FnOneGate wrap_FnOneGate
    (fun os started H enc _ => lifted_FnOneGate os started H enc)
#print axioms FnOneGate_holds
end Go.Proofs.Ytodnahpegecpiaa

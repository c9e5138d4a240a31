/- Contracts of the authenticated values' functions: AuthOk, MacCheck. Printed by mac2.py. -/
import Derived.Test.YtllnnbmgdbinnaaIsForm
import Derived.Test.YtllnnbmgdbinnaaAuto
import Derived.Test.YtllnnbmgdbinnaaMacMath
import Derived.Deep.RegionHeld3
namespace Go.Proofs.Ytllnnbmgdbinnaa
set_option linter.unusedSimpArgs false
set_option linter.unusedVariables false
open Go.RowKit
theorem AuthsAt.drew {w : World} {g n : Nat} {fs : List (List Int × List Int)} (h : AuthsAt w g n fs) : AuthsAt w.drew g n fs := h
theorem isFormB_cons (p : Int) (al : List Int) (f : List Int × List Int) (fs : List (List Int × List Int)) : isFormB p al (f :: fs) = (formPart p al f && isFormB p al fs) := by simp [isFormB, Bool.and_assoc]
theorem isFormB1 (p : Int) (al sh ma : List Int) : isFormB p al [(sh, ma)] = formOk p al sh ma := by
  cases h : keysOk p al <;> simp [isFormB, formPart, formOk, h]
theorem formPart_and (p : Int) (al sh ma : List Int) (b : Bool) (hb : b = true → keysOk p al = true) : (formPart p al (sh, ma) && b) = (formOk p al sh ma && b) := by
  cases b with
  | false => simp
  | true => simp [formPart, formOk, hb rfl]
theorem form_keys2 {p : Int} {al sh ma : List Int} : formOk p al sh ma = true → keysOk p al = true := fun h => (formOk_iff.1 h).1
theorem isFormB2 (p : Int) (al sa ma sb mb : List Int) : isFormB p al [(sa, ma), (sb, mb)] = (formOk p al sa ma && formOk p al sb mb) := by
  rw [isFormB_cons, isFormB1, formPart_and _ _ _ _ _ form_keys2]
theorem isFormB3 (p : Int) (al sa ma sb mb sc mc : List Int) : isFormB p al [(sa, ma), (sb, mb), (sc, mc)] = (formOk p al sa ma && formOk p al sb mb && formOk p al sc mc) := by
  rw [isFormB_cons, isFormB2, formPart_and _ _ _ _ _ (fun h => form_keys2 (Bool.and_eq_true_iff.1 h).1), Bool.and_assoc]
theorem isFormB4 (p : Int) (al sa ma sb mb sc mc sd md : List Int) : isFormB p al [(sa, ma), (sb, mb), (sc, mc), (sd, md)] = (formOk p al sa ma && formOk p al sb mb && formOk p al sc mc && formOk p al sd md) := by
  rw [isFormB_cons, isFormB3, formPart_and _ _ _ _ _ (fun h => form_keys2 (Bool.and_eq_true_iff.1 (Bool.and_eq_true_iff.1 h).1).1)]
  simp only [Bool.and_assoc]
theorem OwnL.nones {w : World} {lo : Nat} (ls : List (Value × Dat)) (h : ∀ p ∈ ls, p = (.slice none 0 0, .ints [])) (hs : lo ≤ w.heap.size) : OwnL w lo w.heap.size ls := by
  refine ⟨hs, Nat.le_refl _, fun p hp => ?_, ?_⟩
  · rw [h p hp]; exact ⟨World.ownsRow_nil _ _ _ _, fun k hk => by cases hk⟩
  · refine List.pairwise_iff_forall_sublist.2 fun {a b} hab => ?_
    have ha := h a (hab.subset (by simp))
    rw [ha]; intro k hk; cases hk
theorem AuthsAt.mk1 {w : World} {g : Nat} {t : TypeId} {A0 B0 : Option Addr} {n0 c0 m0 d0 : Nat} {l0 r0 : List Int} (i0 : Ints w A0 n0 l0) (b0 : n0 ≤ 1048576) (j0 : Ints w B0 m0 r0) (e0 : m0 ≤ 1048576) (hg : g = w.heap.size) : AuthsAt (w.alloc (.cells #[.slice A0 n0 c0, .slice B0 m0 d0] t)) g 1 [(l0, r0)] := by
  subst hg
  refine ⟨rfl, by simp, fun k hk => ?_⟩
  rw [World.cell?_alloc_at _ _ _ _ rfl, World.cell?_alloc_at _ _ _ _ rfl]
  match k, hk with
  | 0, _ => exact ⟨_, _, _, _, _, _, rfl, rfl, b0, e0, i0.alloc _, j0.alloc _⟩
theorem AuthsAt.mk2 {w : World} {g : Nat} {t : TypeId} {A0 B0 : Option Addr} {n0 c0 m0 d0 : Nat} {l0 r0 : List Int} {A1 B1 : Option Addr} {n1 c1 m1 d1 : Nat} {l1 r1 : List Int} (i0 : Ints w A0 n0 l0) (b0 : n0 ≤ 1048576) (j0 : Ints w B0 m0 r0) (e0 : m0 ≤ 1048576) (i1 : Ints w A1 n1 l1) (b1 : n1 ≤ 1048576) (j1 : Ints w B1 m1 r1) (e1 : m1 ≤ 1048576) (hg : g = w.heap.size) : AuthsAt (w.alloc (.cells #[.slice A0 n0 c0, .slice B0 m0 d0, .slice A1 n1 c1, .slice B1 m1 d1] t)) g 2 [(l0, r0), (l1, r1)] := by
  subst hg
  refine ⟨rfl, by simp, fun k hk => ?_⟩
  rw [World.cell?_alloc_at _ _ _ _ rfl, World.cell?_alloc_at _ _ _ _ rfl]
  match k, hk with
  | 0, _ => exact ⟨_, _, _, _, _, _, rfl, rfl, b0, e0, i0.alloc _, j0.alloc _⟩
  | 1, _ => exact ⟨_, _, _, _, _, _, rfl, rfl, b1, e1, i1.alloc _, j1.alloc _⟩
theorem AuthsAt.mk3 {w : World} {g : Nat} {t : TypeId} {A0 B0 : Option Addr} {n0 c0 m0 d0 : Nat} {l0 r0 : List Int} {A1 B1 : Option Addr} {n1 c1 m1 d1 : Nat} {l1 r1 : List Int} {A2 B2 : Option Addr} {n2 c2 m2 d2 : Nat} {l2 r2 : List Int} (i0 : Ints w A0 n0 l0) (b0 : n0 ≤ 1048576) (j0 : Ints w B0 m0 r0) (e0 : m0 ≤ 1048576) (i1 : Ints w A1 n1 l1) (b1 : n1 ≤ 1048576) (j1 : Ints w B1 m1 r1) (e1 : m1 ≤ 1048576) (i2 : Ints w A2 n2 l2) (b2 : n2 ≤ 1048576) (j2 : Ints w B2 m2 r2) (e2 : m2 ≤ 1048576) (hg : g = w.heap.size) : AuthsAt (w.alloc (.cells #[.slice A0 n0 c0, .slice B0 m0 d0, .slice A1 n1 c1, .slice B1 m1 d1, .slice A2 n2 c2, .slice B2 m2 d2] t)) g 3 [(l0, r0), (l1, r1), (l2, r2)] := by
  subst hg
  refine ⟨rfl, by simp, fun k hk => ?_⟩
  rw [World.cell?_alloc_at _ _ _ _ rfl, World.cell?_alloc_at _ _ _ _ rfl]
  match k, hk with
  | 0, _ => exact ⟨_, _, _, _, _, _, rfl, rfl, b0, e0, i0.alloc _, j0.alloc _⟩
  | 1, _ => exact ⟨_, _, _, _, _, _, rfl, rfl, b1, e1, i1.alloc _, j1.alloc _⟩
  | 2, _ => exact ⟨_, _, _, _, _, _, rfl, rfl, b2, e2, i2.alloc _, j2.alloc _⟩
theorem AuthsAt.mk4 {w : World} {g : Nat} {t : TypeId} {A0 B0 : Option Addr} {n0 c0 m0 d0 : Nat} {l0 r0 : List Int} {A1 B1 : Option Addr} {n1 c1 m1 d1 : Nat} {l1 r1 : List Int} {A2 B2 : Option Addr} {n2 c2 m2 d2 : Nat} {l2 r2 : List Int} {A3 B3 : Option Addr} {n3 c3 m3 d3 : Nat} {l3 r3 : List Int} (i0 : Ints w A0 n0 l0) (b0 : n0 ≤ 1048576) (j0 : Ints w B0 m0 r0) (e0 : m0 ≤ 1048576) (i1 : Ints w A1 n1 l1) (b1 : n1 ≤ 1048576) (j1 : Ints w B1 m1 r1) (e1 : m1 ≤ 1048576) (i2 : Ints w A2 n2 l2) (b2 : n2 ≤ 1048576) (j2 : Ints w B2 m2 r2) (e2 : m2 ≤ 1048576) (i3 : Ints w A3 n3 l3) (b3 : n3 ≤ 1048576) (j3 : Ints w B3 m3 r3) (e3 : m3 ≤ 1048576) (hg : g = w.heap.size) : AuthsAt (w.alloc (.cells #[.slice A0 n0 c0, .slice B0 m0 d0, .slice A1 n1 c1, .slice B1 m1 d1, .slice A2 n2 c2, .slice B2 m2 d2, .slice A3 n3 c3, .slice B3 m3 d3] t)) g 4 [(l0, r0), (l1, r1), (l2, r2), (l3, r3)] := by
  subst hg
  refine ⟨rfl, by simp, fun k hk => ?_⟩
  rw [World.cell?_alloc_at _ _ _ _ rfl, World.cell?_alloc_at _ _ _ _ rfl]
  match k, hk with
  | 0, _ => exact ⟨_, _, _, _, _, _, rfl, rfl, b0, e0, i0.alloc _, j0.alloc _⟩
  | 1, _ => exact ⟨_, _, _, _, _, _, rfl, rfl, b1, e1, i1.alloc _, j1.alloc _⟩
  | 2, _ => exact ⟨_, _, _, _, _, _, rfl, rfl, b2, e2, i2.alloc _, j2.alloc _⟩
  | 3, _ => exact ⟨_, _, _, _, _, _, rfl, rfl, b3, e3, i3.alloc _, j3.alloc _⟩
theorem sAddShares_L (p : Int) {A B : Option Addr} {n m c d : Nat} {a b : List Int} {w : World} (h1 : Ints w A n a) (h2 : Ints w B m b) (hn : n ≤ 1048576) (hm : m ≤ 1048576) :
    Calls Try.prog 119 #[.int .i64 p, .slice A n c, .slice B m d] w fun e w' => ∃ A' n' c', e = .returned (.slice A' n' c') ∧ OwnL w' w.heap.size w'.heap.size [(.slice A' n' c', .ints (addL p a b))] ∧ Below w.heap.size w w' := by
  refine (sAddShares_V p A B n m c d a b w h1 h2 hn hm).mono ?_
  rintro e w' ⟨v, rfl, ho, hb⟩
  obtain ⟨A', n', c', rfl, h⟩ := own_result ho hb.size
  exact ⟨A', n', c', rfl, h, hb⟩
theorem sScaleShares_L (p q : Int) {A : Option Addr} {n c : Nat} {a : List Int} {w : World} (h1 : Ints w A n a) (hn : n ≤ 1048576) :
    Calls Try.prog 117 #[.int .i64 p, .slice A n c, .int .i64 q] w fun e w' => ∃ A' n' c', e = .returned (.slice A' n' c') ∧ OwnL w' w.heap.size w'.heap.size [(.slice A' n' c', .ints (scaleL p a q))] ∧ Below w.heap.size w w' := by
  refine (sScaleShares_V p A n c a q w h1 hn).mono ?_
  rintro e w' ⟨v, rfl, ho, hb⟩
  obtain ⟨A', n', c', rfl, h⟩ := own_result ho hb.size
  exact ⟨A', n', c', rfl, h, hb⟩
theorem sAddConstant_L (p q : Int) {A : Option Addr} {n c : Nat} {a : List Int} {w : World} (h1 : Ints w A n a) (hn : n ≤ 1048576) :
    Calls Try.prog 127 #[.int .i64 p, .slice A n c, .int .i64 q] w fun e w' => ∃ A' n' c', e = .returned (.slice A' n' c') ∧ OwnL w' w.heap.size w'.heap.size [(.slice A' n' c', .ints (constL p a q))] ∧ Below w.heap.size w w' := by
  refine (sAddConstant_V p A n c a q w h1 hn).mono ?_
  rintro e w' ⟨v, rfl, ho, hb⟩
  obtain ⟨A', n', c', rfl, h⟩ := own_result ho hb.size
  exact ⟨A', n', c', rfl, h, hb⟩
theorem iAddShares_L (p : Int) {A B : Option Addr} {n m c d : Nat} {a b : List Int} {w : World} (h1 : Ints w A n a) (h2 : Ints w B m b) (hn : n ≤ 1048576) (hm : m ≤ 1048576) :
    Calls Try.prog 120 #[.int .i64 p, .slice A n c, .slice B m d] w fun e w' => ∃ A' n' c', e = .returned (.slice A' n' c') ∧ OwnL w' w.heap.size w'.heap.size [(.slice A' n' c', .ints (addL p a b))] ∧ Below w.heap.size w w' := by
  refine (iAddShares_V p A B n m c d a b w h1 h2 hn hm).mono ?_
  rintro e w' ⟨v, rfl, ho, hb⟩
  obtain ⟨A', n', c', rfl, h⟩ := own_result ho hb.size
  exact ⟨A', n', c', rfl, h, hb⟩
theorem iScaleShares_L (p q : Int) {A : Option Addr} {n c : Nat} {a : List Int} {w : World} (h1 : Ints w A n a) (hn : n ≤ 1048576) :
    Calls Try.prog 118 #[.int .i64 p, .slice A n c, .int .i64 q] w fun e w' => ∃ A' n' c', e = .returned (.slice A' n' c') ∧ OwnL w' w.heap.size w'.heap.size [(.slice A' n' c', .ints (scaleL p a q))] ∧ Below w.heap.size w w' := by
  refine (iScaleShares_V p A n c a q w h1 hn).mono ?_
  rintro e w' ⟨v, rfl, ho, hb⟩
  obtain ⟨A', n', c', rfl, h⟩ := own_result ho hb.size
  exact ⟨A', n', c', rfl, h, hb⟩
theorem iAddConstant_L (p q : Int) {A : Option Addr} {n c : Nat} {a : List Int} {w : World} (h1 : Ints w A n a) (hn : n ≤ 1048576) :
    Calls Try.prog 128 #[.int .i64 p, .slice A n c, .int .i64 q] w fun e w' => ∃ A' n' c', e = .returned (.slice A' n' c') ∧ OwnL w' w.heap.size w'.heap.size [(.slice A' n' c', .ints (constL p a q))] ∧ Below w.heap.size w w' := by
  refine (iAddConstant_V p A n c a q w h1 hn).mono ?_
  rintro e w' ⟨v, rfl, ho, hb⟩
  obtain ⟨A', n', c', rfl, h⟩ := own_result ho hb.size
  exact ⟨A', n', c', rfl, h, hb⟩
set_option maxRecDepth 100000 in
set_option maxHeartbeats 2000000 in
theorem sAuthOk_L {kA1 : Option Addr} {kn1 kc1 : Nat} {kL1 : List Int} {aA0 : Option Addr} {an0 ac0 : Nat} {aL0 : List Int} {aA1 : Option Addr} {an1 ac1 : Nat} {aL1 : List Int} {w : World} (kI0 : Int) (kH : RdL w [((.slice kA1 kn1 kc1), .ints kL1)]) (kL1n : kL1.length ≤ 1048576) (aH : RdL w [((.slice aA0 an0 ac0), .ints aL0), ((.slice aA1 an1 ac1), .ints aL1)]) (aL0n : aL0.length ≤ 1048576) (aL1n : aL1.length ≤ 1048576) :
    Calls Try.prog 44 #[.agg #[.int .i64 kI0, (.slice kA1 kn1 kc1)], .agg #[(.slice aA0 an0 ac0), (.slice aA1 an1 ac1)]] w fun e w' => e = .returned (.bool (authOk kI0 kL1 aL0 aL1)) ∧ Below w.heap.size w w' := by
  have kL1i : Ints w kA1 kn1 kL1 := Rd.toInts (kH ((.slice kA1 kn1 kc1), .ints kL1) (by simp))
  have kL1l := Lib.hid kL1i.len
  have kL1m : kn1 ≤ 1048576 := by rw [← kL1l.out]; exact kL1n
  have aL0i : Ints w aA0 an0 aL0 := Rd.toInts (aH ((.slice aA0 an0 ac0), .ints aL0) (by simp))
  have aL0l := Lib.hid aL0i.len
  have aL0m : an0 ≤ 1048576 := by rw [← aL0l.out]; exact aL0n
  have aL1i : Ints w aA1 an1 aL1 := Rd.toInts (aH ((.slice aA1 an1 ac1), .ints aL1) (by simp))
  have aL1l := Lib.hid aL1i.len
  have aL1m : an1 ≤ 1048576 := by rw [← aL1l.out]; exact aL1n
  have HE : Hid (authOk kI0 kL1 aL0 aL1 = (formOk kI0 kL1 aL0 aL1 && (fsum kI0 aL1 == fmul kI0 (fsum kI0 aL0) (fsum kI0 kL1)))) := rfl
  cases k1 : formOk kI0 kL1 aL0 aL1 with
  | false =>
    go_enter Try.func44, Try.ntmps44
    go_wp2_with fail
    refine wp_region_held_drew (S := fun W => W.cell? ⟨w.heap.size, 0, none⟩ = some (.int .i64 kI0) ∧ W.cell? ⟨w.heap.size, 1, none⟩ = some ((.slice kA1 kn1 kc1)) ∧ W.cell? ⟨w.heap.size + 1, 0, none⟩ = some ((.slice aA0 an0 ac0)) ∧ W.cell? ⟨w.heap.size + 1, 1, none⟩ = some ((.slice aA1 an1 ac1))) (by kernel_rfl) ⟨((Box.new (g := w.heap.size) _ #[.int .i64 kI0, (.slice kA1 kn1 kc1)] 33 (by simp)).alloc _).drew.two.1, ((Box.new (g := w.heap.size) _ #[.int .i64 kI0, (.slice kA1 kn1 kc1)] 33 (by simp)).alloc _).drew.two.2.1, (Box.new (g := w.heap.size + 1) _ #[(.slice aA0 an0 ac0), (.slice aA1 an1 ac1)] 38 (by simp)).drew.two.1, (Box.new (g := w.heap.size + 1) _ #[(.slice aA0 an0 ac0), (.slice aA1 an1 ac1)] 38 (by simp)).drew.two.2.1⟩ (fun hS => ?_)
    (refine tk 0 hS ?_; (try simp only [Act.put, layA, layB, layC]))
    (refine tk 1 hS ?_; (try simp only [Act.put, layA, layB, layC]))
    refine on 2 ?_
    refine callH (by go_simp; (first | done | with_reducible rfl | exact ⟨rfl, rfl⟩)) ?_
    go_at_call 107
    refine (sl23Form_L kI0 (RdL.b kH) kL1n (RdL.b aH) aL0n aL1n).mono ?_
    rintro e w1 ⟨rfl, b1⟩
    clear hS
    have z1 := Below.size b1
    (try simp only [World.size_alloc, World.size_setCell, size_drew] at z1)
    have B1 : Below w.heap.size w w1 := Below.t b1
    have xk_ : Box w1 (w.heap.size) #[.int .i64 kI0, (.slice kA1 kn1 kc1)] 33 := (Box.b ((Box.new (g := w.heap.size) _ #[.int .i64 kI0, (.slice kA1 kn1 kc1)] 33 (by simp)).alloc _).drew b1)
    have xk := xk_; clear xk_
    have xa_ : Box w1 (w.heap.size + 1) #[(.slice aA0 an0 ac0), (.slice aA1 an1 ac1)] 38 := (Box.b (Box.new (g := w.heap.size + 1) _ #[(.slice aA0 an0 ac0), (.slice aA1 an1 ac1)] 38 (by simp)).drew b1)
    have xa := xa_; clear xa_
    refine ⟨.bool false, by rw [k1], ⟨xk.two.1, xk.two.2.1, xa.two.1, xa.two.2.1⟩, fun hS => ?_⟩
    (try simp only [Act.put, layA, layB, layC])
    (refine tk 3 hS ?_; (try simp only [Act.put, layA, layB, layC]))
    (refine ps 4 hS ?_; (try simp only [Act.put, layA, layB, layC]))
    (refine ps 5 hS ?_; (try simp only [Act.put, layA, layB, layC]))
    (refine ps 6 hS ?_; (try simp only [Act.put, layA, layB, layC]))
    (refine ps 7 hS ?_; (try simp only [Act.put, layA, layB, layC]))
    (refine ps 8 hS ?_; (try simp only [Act.put, layA, layB, layC]))
    (refine ps 9 hS ?_; (try simp only [Act.put, layA, layB, layC]))
    (refine ps 10 hS ?_; (try simp only [Act.put, layA, layB, layC]))
    (refine ps 11 hS ?_; (try simp only [Act.put, layA, layB, layC]))
    (refine ps 12 hS ?_; (try simp only [Act.put, layA, layB, layC]))
    (refine ps 13 hS ?_; (try simp only [Act.put, layA, layB, layC]))
    (refine ps 14 hS ?_; (try simp only [Act.put, layA, layB, layC]))
    (refine ps 15 hS ?_; (try simp only [Act.put, layA, layB, layC]))
    (refine ps 16 hS ?_; (try simp only [Act.put, layA, layB, layC]))
    (refine ps 17 hS ?_; (try simp only [Act.put, layA, layB, layC]))
    (refine ps 18 hS ?_; (try simp only [Act.put, layA, layB, layC]))
    (refine ps 19 hS ?_; (try simp only [Act.put, layA, layB, layC]))
    (refine tk 20 hS ?_; (try simp only [Act.put, layA, layB, layC]))
    (refine tk 21 hS ?_; (try simp only [Act.put, layA, layB, layC]))
    clear hS
    refine wpAnyH_done (by kernel_rfl) ?_ _
    go_wp2
    go_ret
    exact ⟨ret_bool (by rw [HE.out, k1]; simp), by repeat (with_reducible (first | assumption | exact Below.refl _ _ | refine Below.alloc ?_ (by first | omega | (simp; done) | (simp; omega)) _ | refine Below.setCell ?_ (by first | omega | (simp; done) | (simp; omega)) _ | refine Below.drew ?_ | refine below_drewN ?_ _))⟩
  | true =>
    go_enter Try.func44, Try.ntmps44
    go_wp2_with fail
    refine wp_region_held_drew (S := fun W => W.cell? ⟨w.heap.size, 0, none⟩ = some (.int .i64 kI0) ∧ W.cell? ⟨w.heap.size, 1, none⟩ = some ((.slice kA1 kn1 kc1)) ∧ W.cell? ⟨w.heap.size + 1, 0, none⟩ = some ((.slice aA0 an0 ac0)) ∧ W.cell? ⟨w.heap.size + 1, 1, none⟩ = some ((.slice aA1 an1 ac1))) (by kernel_rfl) ⟨((Box.new (g := w.heap.size) _ #[.int .i64 kI0, (.slice kA1 kn1 kc1)] 33 (by simp)).alloc _).drew.two.1, ((Box.new (g := w.heap.size) _ #[.int .i64 kI0, (.slice kA1 kn1 kc1)] 33 (by simp)).alloc _).drew.two.2.1, (Box.new (g := w.heap.size + 1) _ #[(.slice aA0 an0 ac0), (.slice aA1 an1 ac1)] 38 (by simp)).drew.two.1, (Box.new (g := w.heap.size + 1) _ #[(.slice aA0 an0 ac0), (.slice aA1 an1 ac1)] 38 (by simp)).drew.two.2.1⟩ (fun hS => ?_)
    (refine tk 0 hS ?_; (try simp only [Act.put, layA, layB, layC]))
    (refine tk 1 hS ?_; (try simp only [Act.put, layA, layB, layC]))
    refine on 2 ?_
    refine callH (by go_simp; (first | done | with_reducible rfl | exact ⟨rfl, rfl⟩)) ?_
    go_at_call 107
    refine (sl23Form_L kI0 (RdL.b kH) kL1n (RdL.b aH) aL0n aL1n).mono ?_
    rintro e w1 ⟨rfl, b1⟩
    clear hS
    have z1 := Below.size b1
    (try simp only [World.size_alloc, World.size_setCell, size_drew] at z1)
    have B1 : Below w.heap.size w w1 := Below.t b1
    have xk_ : Box w1 (w.heap.size) #[.int .i64 kI0, (.slice kA1 kn1 kc1)] 33 := (Box.b ((Box.new (g := w.heap.size) _ #[.int .i64 kI0, (.slice kA1 kn1 kc1)] 33 (by simp)).alloc _).drew b1)
    have xk := xk_; clear xk_
    have xa_ : Box w1 (w.heap.size + 1) #[(.slice aA0 an0 ac0), (.slice aA1 an1 ac1)] 38 := (Box.b (Box.new (g := w.heap.size + 1) _ #[(.slice aA0 an0 ac0), (.slice aA1 an1 ac1)] 38 (by simp)).drew b1)
    have xa := xa_; clear xa_
    refine ⟨.bool true, by rw [k1], ⟨xk.two.1, xk.two.2.1, xa.two.1, xa.two.2.1⟩, fun hS => ?_⟩
    (try simp only [Act.put, layA, layB, layC])
    (refine tk 3 hS ?_; (try simp only [Act.put, layA, layB, layC]))
    (refine tk 4 hS ?_; (try simp only [Act.put, layA, layB, layC]))
    (refine tk 5 hS ?_; (try simp only [Act.put, layA, layB, layC]))
    (refine tk 6 hS ?_; (try simp only [Act.put, layA, layB, layC]))
    (refine tk 7 hS ?_; (try simp only [Act.put, layA, layB, layC]))
    (refine tk 9 hS ?_; (try simp only [Act.put, layA, layB, layC]))
    (refine tk 10 hS ?_; (try simp only [Act.put, layA, layB, layC]))
    (refine tk 11 hS ?_; (try simp only [Act.put, layA, layB, layC]))
    (refine tk 12 hS ?_; (try simp only [Act.put, layA, layB, layC]))
    (refine tk 13 hS ?_; (try simp only [Act.put, layA, layB, layC]))
    (refine tk 14 hS ?_; (try simp only [Act.put, layA, layB, layC]))
    (refine tk 16 hS ?_; (try simp only [Act.put, layA, layB, layC]))
    refine on 8 ?_
    refine callH (by go_simp; (first | done | with_reducible rfl | exact ⟨rfl, rfl⟩)) ?_
    go_at_call 104
    refine (sFSum_any _ _ _ _ _ _ aL1i.b (by omega)).mono ?_
    rintro e w_ ⟨rfl, rfl⟩
    refine ⟨_, rfl, hS, fun hS => ?_⟩
    (try simp only [Act.put, layA, layB, layC])
    refine on 15 ?_
    refine callH (by go_simp; (first | done | with_reducible rfl | exact ⟨rfl, rfl⟩)) ?_
    go_at_call 104
    refine (sFSum_any _ _ _ _ _ _ aL0i.b (by omega)).mono ?_
    rintro e w_ ⟨rfl, rfl⟩
    refine ⟨_, rfl, hS, fun hS => ?_⟩
    (try simp only [Act.put, layA, layB, layC])
    refine on 17 ?_
    refine callH (by go_simp; (first | done | with_reducible rfl | exact ⟨rfl, rfl⟩)) ?_
    go_at_call 106
    refine (sl23Key_L kI0 (RdL.b kH) kL1n).mono ?_
    rintro e w2 ⟨rfl, b2⟩
    clear hS
    have z2 := Below.size b2
    (try simp only [World.size_alloc, World.size_setCell, size_drew] at z2)
    have B2 : Below w.heap.size w w2 := Below.t b2
    have xk_ : Box w2 (w.heap.size) #[.int .i64 kI0, (.slice kA1 kn1 kc1)] 33 := (Box.b xk b2)
    clear xk; have xk := xk_; clear xk_
    have xa_ : Box w2 (w.heap.size + 1) #[(.slice aA0 an0 ac0), (.slice aA1 an1 ac1)] 38 := (Box.b xa b2)
    clear xa; have xa := xa_; clear xa_
    refine ⟨_, rfl, ⟨xk.two.1, xk.two.2.1, xa.two.1, xa.two.2.1⟩, fun hS => ?_⟩
    (try simp only [Act.put, layA, layB, layC])
    refine on 18 ?_
    refine callH (by go_simp; (first | done | with_reducible rfl | exact ⟨rfl, rfl⟩)) ?_
    go_at_call 105
    refine (sFMul_any _ _ _ _).mono ?_
    rintro e w_ ⟨rfl, rfl⟩
    refine ⟨_, rfl, hS, fun hS => ?_⟩
    (try simp only [Act.put, layA, layB, layC])
    (refine tk 19 hS ?_; (try simp only [Act.put, layA, layB, layC]))
    (refine tk 20 hS ?_; (try simp only [Act.put, layA, layB, layC]))
    (refine tk 21 hS ?_; (try simp only [Act.put, layA, layB, layC]))
    clear hS
    refine wpAnyH_done (by kernel_rfl) ?_ _
    go_wp2
    go_ret
    exact ⟨ret_bool (by rw [HE.out, k1]; simp), by repeat (with_reducible (first | assumption | exact Below.refl _ _ | refine Below.alloc ?_ (by first | omega | (simp; done) | (simp; omega)) _ | refine Below.setCell ?_ (by first | omega | (simp; done) | (simp; omega)) _ | refine Below.drew ?_ | refine below_drewN ?_ _))⟩
set_option maxRecDepth 100000 in
set_option maxHeartbeats 2000000 in
theorem iAuthOk_L {kA1 : Option Addr} {kn1 kc1 : Nat} {kL1 : List Int} {aA0 : Option Addr} {an0 ac0 : Nat} {aL0 : List Int} {aA1 : Option Addr} {an1 ac1 : Nat} {aL1 : List Int} {w : World} (kI0 : Int) (kH : RdL w [((.slice kA1 kn1 kc1), .ints kL1)]) (kL1n : kL1.length ≤ 1048576) (aH : RdL w [((.slice aA0 an0 ac0), .ints aL0), ((.slice aA1 an1 ac1), .ints aL1)]) (aL0n : aL0.length ≤ 1048576) (aL1n : aL1.length ≤ 1048576) :
    Calls Try.prog 45 #[.agg #[.int .i64 kI0, (.slice kA1 kn1 kc1)], .agg #[(.slice aA0 an0 ac0), (.slice aA1 an1 ac1)]] w fun e w' => e = .returned (.bool (authOk kI0 kL1 aL0 aL1)) ∧ Below w.heap.size w w' := by
  have kL1i : Ints w kA1 kn1 kL1 := Rd.toInts (kH ((.slice kA1 kn1 kc1), .ints kL1) (by simp))
  have kL1l := Lib.hid kL1i.len
  have kL1m : kn1 ≤ 1048576 := by rw [← kL1l.out]; exact kL1n
  have aL0i : Ints w aA0 an0 aL0 := Rd.toInts (aH ((.slice aA0 an0 ac0), .ints aL0) (by simp))
  have aL0l := Lib.hid aL0i.len
  have aL0m : an0 ≤ 1048576 := by rw [← aL0l.out]; exact aL0n
  have aL1i : Ints w aA1 an1 aL1 := Rd.toInts (aH ((.slice aA1 an1 ac1), .ints aL1) (by simp))
  have aL1l := Lib.hid aL1i.len
  have aL1m : an1 ≤ 1048576 := by rw [← aL1l.out]; exact aL1n
  have HE : Hid (authOk kI0 kL1 aL0 aL1 = (formOk kI0 kL1 aL0 aL1 && (fsum kI0 aL1 == fmul kI0 (fsum kI0 aL0) (fsum kI0 kL1)))) := rfl
  have HI := Lib.hid (isFormB1 kI0 kL1 aL0 aL1)
  cases k1 : formOk kI0 kL1 aL0 aL1 with
  | false =>
    have k2 : isFormB kI0 kL1 [(aL0, aL1)] = false := by rw [HI.out, k1]
    go_enter Try.func45, Try.ntmps45
    go_wp2_with fail
    refine wp_region_held_drew (S := fun W => W.cell? ⟨w.heap.size, 0, none⟩ = some (.int .i64 kI0) ∧ W.cell? ⟨w.heap.size, 1, none⟩ = some ((.slice kA1 kn1 kc1)) ∧ W.cell? ⟨w.heap.size + 1, 0, none⟩ = some ((.slice aA0 an0 ac0)) ∧ W.cell? ⟨w.heap.size + 1, 1, none⟩ = some ((.slice aA1 an1 ac1))) (by kernel_rfl) ⟨((Box.new (g := w.heap.size) _ #[.int .i64 kI0, (.slice kA1 kn1 kc1)] 33 (by simp)).alloc _).drew.two.1, ((Box.new (g := w.heap.size) _ #[.int .i64 kI0, (.slice kA1 kn1 kc1)] 33 (by simp)).alloc _).drew.two.2.1, (Box.new (g := w.heap.size + 1) _ #[(.slice aA0 an0 ac0), (.slice aA1 an1 ac1)] 38 (by simp)).drew.two.1, (Box.new (g := w.heap.size + 1) _ #[(.slice aA0 an0 ac0), (.slice aA1 an1 ac1)] 38 (by simp)).drew.two.2.1⟩ (fun hS => ?_)
    (refine tk 0 hS ?_; (try simp only [Act.put, layA, layB, layC]))
    (refine tk 1 hS ?_; (try simp only [Act.put, layA, layB, layC]))
    refine on 2 ?_
    refine valueH (by go_simp; (first | done | with_reducible rfl | exact ⟨rfl, rfl⟩)) ?_ (fun hS_ => ?_)
    · exact ⟨(((Box.new (g := w.heap.size) _ #[.int .i64 kI0, (.slice kA1 kn1 kc1)] 33 (by simp)).alloc _).alloc _).drew.two.1, (((Box.new (g := w.heap.size) _ #[.int .i64 kI0, (.slice kA1 kn1 kc1)] 33 (by simp)).alloc _).alloc _).drew.two.2.1, ((Box.new (g := w.heap.size + 1) _ #[(.slice aA0 an0 ac0), (.slice aA1 an1 ac1)] 38 (by simp)).alloc _).drew.two.1, ((Box.new (g := w.heap.size + 1) _ #[(.slice aA0 an0 ac0), (.slice aA1 an1 ac1)] 38 (by simp)).alloc _).drew.two.2.1⟩
    clear hS
    have hS := hS_
    clear hS_
    (try simp only [Act.put, layA, layB, layC])
    refine on 3 ?_
    refine callH (by go_simp; (first | done | with_reducible rfl | exact ⟨rfl, rfl⟩)) ?_
    go_at_call 108
    refine (isForm_any kI0 (RdL.b kH) kL1n _ 1 _ [(aL0, aL1)] (AuthsAt.mk1 aL0i.b aL0m aL1i.b aL1m (by simp)).drew (by omega)).mono ?_
    rintro e w1 ⟨rfl, b1⟩
    clear hS
    have z1 := Below.size b1
    (try simp only [World.size_alloc, World.size_setCell, size_drew] at z1)
    have B1 : Below w.heap.size w w1 := Below.t b1
    have xk_ : Box w1 (w.heap.size) #[.int .i64 kI0, (.slice kA1 kn1 kc1)] 33 := (Box.b (((Box.new (g := w.heap.size) _ #[.int .i64 kI0, (.slice kA1 kn1 kc1)] 33 (by simp)).alloc _).alloc _).drew b1)
    have xk := xk_; clear xk_
    have xa_ : Box w1 (w.heap.size + 1) #[(.slice aA0 an0 ac0), (.slice aA1 an1 ac1)] 38 := (Box.b ((Box.new (g := w.heap.size + 1) _ #[(.slice aA0 an0 ac0), (.slice aA1 an1 ac1)] 38 (by simp)).alloc _).drew b1)
    have xa := xa_; clear xa_
    have xlit_ : Box w1 (w.heap.size + 1 + 1) #[(.slice aA0 an0 ac0), (.slice aA1 an1 ac1)] 38 := (Box.b (Box.new (g := w.heap.size + 1 + 1) _ #[(.slice aA0 an0 ac0), (.slice aA1 an1 ac1)] 38 (by simp)).drew b1)
    have xlit := xlit_; clear xlit_
    refine ⟨.bool false, by rw [k2], ⟨xk.two.1, xk.two.2.1, xa.two.1, xa.two.2.1⟩, fun hS => ?_⟩
    (try simp only [Act.put, layA, layB, layC])
    (refine tk 4 hS ?_; (try simp only [Act.put, layA, layB, layC]))
    (refine ps 5 hS ?_; (try simp only [Act.put, layA, layB, layC]))
    (refine ps 6 hS ?_; (try simp only [Act.put, layA, layB, layC]))
    (refine ps 7 hS ?_; (try simp only [Act.put, layA, layB, layC]))
    (refine ps 8 hS ?_; (try simp only [Act.put, layA, layB, layC]))
    (refine ps 9 hS ?_; (try simp only [Act.put, layA, layB, layC]))
    (refine ps 10 hS ?_; (try simp only [Act.put, layA, layB, layC]))
    (refine ps 11 hS ?_; (try simp only [Act.put, layA, layB, layC]))
    (refine ps 12 hS ?_; (try simp only [Act.put, layA, layB, layC]))
    (refine ps 13 hS ?_; (try simp only [Act.put, layA, layB, layC]))
    (refine ps 14 hS ?_; (try simp only [Act.put, layA, layB, layC]))
    (refine ps 15 hS ?_; (try simp only [Act.put, layA, layB, layC]))
    (refine ps 16 hS ?_; (try simp only [Act.put, layA, layB, layC]))
    (refine ps 17 hS ?_; (try simp only [Act.put, layA, layB, layC]))
    (refine ps 18 hS ?_; (try simp only [Act.put, layA, layB, layC]))
    (refine ps 19 hS ?_; (try simp only [Act.put, layA, layB, layC]))
    (refine ps 20 hS ?_; (try simp only [Act.put, layA, layB, layC]))
    (refine ps 21 hS ?_; (try simp only [Act.put, layA, layB, layC]))
    (refine tk 22 hS ?_; (try simp only [Act.put, layA, layB, layC]))
    (refine tk 23 hS ?_; (try simp only [Act.put, layA, layB, layC]))
    clear hS
    refine wpAnyH_done (by kernel_rfl) ?_ _
    go_wp2
    go_ret
    exact ⟨ret_bool (by rw [HE.out, k1]; simp), by repeat (with_reducible (first | assumption | exact Below.refl _ _ | refine Below.alloc ?_ (by first | omega | (simp; done) | (simp; omega)) _ | refine Below.setCell ?_ (by first | omega | (simp; done) | (simp; omega)) _ | refine Below.drew ?_ | refine below_drewN ?_ _))⟩
  | true =>
    have k2 : isFormB kI0 kL1 [(aL0, aL1)] = true := by rw [HI.out, k1]
    go_enter Try.func45, Try.ntmps45
    go_wp2_with fail
    refine wp_region_held_drew (S := fun W => W.cell? ⟨w.heap.size, 0, none⟩ = some (.int .i64 kI0) ∧ W.cell? ⟨w.heap.size, 1, none⟩ = some ((.slice kA1 kn1 kc1)) ∧ W.cell? ⟨w.heap.size + 1, 0, none⟩ = some ((.slice aA0 an0 ac0)) ∧ W.cell? ⟨w.heap.size + 1, 1, none⟩ = some ((.slice aA1 an1 ac1))) (by kernel_rfl) ⟨((Box.new (g := w.heap.size) _ #[.int .i64 kI0, (.slice kA1 kn1 kc1)] 33 (by simp)).alloc _).drew.two.1, ((Box.new (g := w.heap.size) _ #[.int .i64 kI0, (.slice kA1 kn1 kc1)] 33 (by simp)).alloc _).drew.two.2.1, (Box.new (g := w.heap.size + 1) _ #[(.slice aA0 an0 ac0), (.slice aA1 an1 ac1)] 38 (by simp)).drew.two.1, (Box.new (g := w.heap.size + 1) _ #[(.slice aA0 an0 ac0), (.slice aA1 an1 ac1)] 38 (by simp)).drew.two.2.1⟩ (fun hS => ?_)
    (refine tk 0 hS ?_; (try simp only [Act.put, layA, layB, layC]))
    (refine tk 1 hS ?_; (try simp only [Act.put, layA, layB, layC]))
    refine on 2 ?_
    refine valueH (by go_simp; (first | done | with_reducible rfl | exact ⟨rfl, rfl⟩)) ?_ (fun hS_ => ?_)
    · exact ⟨(((Box.new (g := w.heap.size) _ #[.int .i64 kI0, (.slice kA1 kn1 kc1)] 33 (by simp)).alloc _).alloc _).drew.two.1, (((Box.new (g := w.heap.size) _ #[.int .i64 kI0, (.slice kA1 kn1 kc1)] 33 (by simp)).alloc _).alloc _).drew.two.2.1, ((Box.new (g := w.heap.size + 1) _ #[(.slice aA0 an0 ac0), (.slice aA1 an1 ac1)] 38 (by simp)).alloc _).drew.two.1, ((Box.new (g := w.heap.size + 1) _ #[(.slice aA0 an0 ac0), (.slice aA1 an1 ac1)] 38 (by simp)).alloc _).drew.two.2.1⟩
    clear hS
    have hS := hS_
    clear hS_
    (try simp only [Act.put, layA, layB, layC])
    refine on 3 ?_
    refine callH (by go_simp; (first | done | with_reducible rfl | exact ⟨rfl, rfl⟩)) ?_
    go_at_call 108
    refine (isForm_any kI0 (RdL.b kH) kL1n _ 1 _ [(aL0, aL1)] (AuthsAt.mk1 aL0i.b aL0m aL1i.b aL1m (by simp)).drew (by omega)).mono ?_
    rintro e w1 ⟨rfl, b1⟩
    clear hS
    have z1 := Below.size b1
    (try simp only [World.size_alloc, World.size_setCell, size_drew] at z1)
    have B1 : Below w.heap.size w w1 := Below.t b1
    have xk_ : Box w1 (w.heap.size) #[.int .i64 kI0, (.slice kA1 kn1 kc1)] 33 := (Box.b (((Box.new (g := w.heap.size) _ #[.int .i64 kI0, (.slice kA1 kn1 kc1)] 33 (by simp)).alloc _).alloc _).drew b1)
    have xk := xk_; clear xk_
    have xa_ : Box w1 (w.heap.size + 1) #[(.slice aA0 an0 ac0), (.slice aA1 an1 ac1)] 38 := (Box.b ((Box.new (g := w.heap.size + 1) _ #[(.slice aA0 an0 ac0), (.slice aA1 an1 ac1)] 38 (by simp)).alloc _).drew b1)
    have xa := xa_; clear xa_
    have xlit_ : Box w1 (w.heap.size + 1 + 1) #[(.slice aA0 an0 ac0), (.slice aA1 an1 ac1)] 38 := (Box.b (Box.new (g := w.heap.size + 1 + 1) _ #[(.slice aA0 an0 ac0), (.slice aA1 an1 ac1)] 38 (by simp)).drew b1)
    have xlit := xlit_; clear xlit_
    refine ⟨.bool true, by rw [k2], ⟨xk.two.1, xk.two.2.1, xa.two.1, xa.two.2.1⟩, fun hS => ?_⟩
    (try simp only [Act.put, layA, layB, layC])
    (refine tk 4 hS ?_; (try simp only [Act.put, layA, layB, layC]))
    (refine tk 5 hS ?_; (try simp only [Act.put, layA, layB, layC]))
    (refine tk 6 hS ?_; (try simp only [Act.put, layA, layB, layC]))
    (refine tk 7 hS ?_; (try simp only [Act.put, layA, layB, layC]))
    (refine tk 8 hS ?_; (try simp only [Act.put, layA, layB, layC]))
    (refine tk 10 hS ?_; (try simp only [Act.put, layA, layB, layC]))
    (refine tk 11 hS ?_; (try simp only [Act.put, layA, layB, layC]))
    (refine tk 12 hS ?_; (try simp only [Act.put, layA, layB, layC]))
    (refine tk 13 hS ?_; (try simp only [Act.put, layA, layB, layC]))
    (refine tk 15 hS ?_; (try simp only [Act.put, layA, layB, layC]))
    (refine tk 16 hS ?_; (try simp only [Act.put, layA, layB, layC]))
    (refine tk 17 hS ?_; (try simp only [Act.put, layA, layB, layC]))
    (refine tk 18 hS ?_; (try simp only [Act.put, layA, layB, layC]))
    refine on 9 ?_
    refine callH (by go_simp; (first | done | with_reducible rfl | exact ⟨rfl, rfl⟩)) ?_
    go_at_call 102
    refine (iFSum_any _ _ _ _ _ _ aL1i.b (by omega)).mono ?_
    rintro e w_ ⟨rfl, rfl⟩
    refine ⟨_, rfl, hS, fun hS => ?_⟩
    (try simp only [Act.put, layA, layB, layC])
    refine on 14 ?_
    refine callH (by go_simp; (first | done | with_reducible rfl | exact ⟨rfl, rfl⟩)) ?_
    go_at_call 109
    refine (ivalueIn_L kI0 (RdL.b kH) kL1n (RdL.b aH) aL0n aL1n).mono ?_
    rintro e w2 ⟨rfl, b2⟩
    clear hS
    have z2 := Below.size b2
    (try simp only [World.size_alloc, World.size_setCell, size_drew] at z2)
    have B2 : Below w.heap.size w w2 := Below.t b2
    have xk_ : Box w2 (w.heap.size) #[.int .i64 kI0, (.slice kA1 kn1 kc1)] 33 := (Box.b xk b2)
    clear xk; have xk := xk_; clear xk_
    have xa_ : Box w2 (w.heap.size + 1) #[(.slice aA0 an0 ac0), (.slice aA1 an1 ac1)] 38 := (Box.b xa b2)
    clear xa; have xa := xa_; clear xa_
    have xlit_ : Box w2 (w.heap.size + 1 + 1) #[(.slice aA0 an0 ac0), (.slice aA1 an1 ac1)] 38 := (Box.b xlit b2)
    clear xlit; have xlit := xlit_; clear xlit_
    refine ⟨_, rfl, ⟨xk.two.1, xk.two.2.1, xa.two.1, xa.two.2.1⟩, fun hS => ?_⟩
    (try simp only [Act.put, layA, layB, layC])
    refine on 19 ?_
    refine callH (by go_simp; (first | done | with_reducible rfl | exact ⟨rfl, rfl⟩)) ?_
    go_at_call 102
    refine (iFSum_any _ _ _ _ _ _ kL1i.b (by omega)).mono ?_
    rintro e w_ ⟨rfl, rfl⟩
    refine ⟨_, rfl, hS, fun hS => ?_⟩
    (try simp only [Act.put, layA, layB, layC])
    refine on 20 ?_
    refine callH (by go_simp; (first | done | with_reducible rfl | exact ⟨rfl, rfl⟩)) ?_
    go_at_call 101
    refine (iFMul_any _ _ _ _).mono ?_
    rintro e w3 ⟨rfl, b3⟩
    clear hS
    have z3 := Below.size b3
    (try simp only [World.size_alloc, World.size_setCell, size_drew] at z3)
    have B3 : Below w.heap.size w w3 := Below.t b3
    have xk_ : Box w3 (w.heap.size) #[.int .i64 kI0, (.slice kA1 kn1 kc1)] 33 := (Box.b xk b3)
    clear xk; have xk := xk_; clear xk_
    have xa_ : Box w3 (w.heap.size + 1) #[(.slice aA0 an0 ac0), (.slice aA1 an1 ac1)] 38 := (Box.b xa b3)
    clear xa; have xa := xa_; clear xa_
    have xlit_ : Box w3 (w.heap.size + 1 + 1) #[(.slice aA0 an0 ac0), (.slice aA1 an1 ac1)] 38 := (Box.b xlit b3)
    clear xlit; have xlit := xlit_; clear xlit_
    refine ⟨_, rfl, ⟨xk.two.1, xk.two.2.1, xa.two.1, xa.two.2.1⟩, fun hS => ?_⟩
    (try simp only [Act.put, layA, layB, layC])
    (refine tk 21 hS ?_; (try simp only [Act.put, layA, layB, layC]))
    (refine tk 22 hS ?_; (try simp only [Act.put, layA, layB, layC]))
    (refine tk 23 hS ?_; (try simp only [Act.put, layA, layB, layC]))
    clear hS
    refine wpAnyH_done (by kernel_rfl) ?_ _
    go_wp2
    go_ret
    exact ⟨ret_bool (by rw [HE.out, k1]; simp), by repeat (with_reducible (first | assumption | exact Below.refl _ _ | refine Below.alloc ?_ (by first | omega | (simp; done) | (simp; omega)) _ | refine Below.setCell ?_ (by first | omega | (simp; done) | (simp; omega)) _ | refine Below.drew ?_ | refine below_drewN ?_ _))⟩
set_option maxRecDepth 100000 in
set_option maxHeartbeats 2000000 in
theorem sMacCheck_L {kA1 : Option Addr} {kn1 kc1 : Nat} {kL1 : List Int} {aA0 : Option Addr} {an0 ac0 : Nat} {aL0 : List Int} {aA1 : Option Addr} {an1 ac1 : Nat} {aL1 : List Int} {w : World} (kI0 : Int) (kH : RdL w [((.slice kA1 kn1 kc1), .ints kL1)]) (kL1n : kL1.length ≤ 1048576) (oI0 : Int) (aH : RdL w [((.slice aA0 an0 ac0), .ints aL0), ((.slice aA1 an1 ac1), .ints aL1)]) (aL0n : aL0.length ≤ 1048576) (aL1n : aL1.length ≤ 1048576) :
    Calls Try.prog 41 #[.agg #[.int .i64 kI0, (.slice kA1 kn1 kc1)], .int .i64 oI0, .agg #[(.slice aA0 an0 ac0), (.slice aA1 an1 ac1)]] w fun e w' => e = .returned (.bool (macOk kI0 kL1 oI0 aL1)) ∧ Below w.heap.size w w' := by
  have kL1i : Ints w kA1 kn1 kL1 := Rd.toInts (kH ((.slice kA1 kn1 kc1), .ints kL1) (by simp))
  have kL1l := Lib.hid kL1i.len
  have kL1m : kn1 ≤ 1048576 := by rw [← kL1l.out]; exact kL1n
  have aL0i : Ints w aA0 an0 aL0 := Rd.toInts (aH ((.slice aA0 an0 ac0), .ints aL0) (by simp))
  have aL0l := Lib.hid aL0i.len
  have aL0m : an0 ≤ 1048576 := by rw [← aL0l.out]; exact aL0n
  have aL1i : Ints w aA1 an1 aL1 := Rd.toInts (aH ((.slice aA1 an1 ac1), .ints aL1) (by simp))
  have aL1l := Lib.hid aL1i.len
  have aL1m : an1 ≤ 1048576 := by rw [← aL1l.out]; exact aL1n
  have HE : Hid (macOk kI0 kL1 oI0 aL1 = (keysOk kI0 kL1 && elem kI0 oI0 && decide (an1 = kn1) && allEl kI0 aL1 && (fsum kI0 aL1 == fmul kI0 oI0 (fsum kI0 kL1)))) := by show _ = _; rw [macOk, kL1l.out, aL1l.out]
  cases k1 : keysOk kI0 kL1 with
  | false =>
    go_enter Try.func41, Try.ntmps41
    go_wp2_with fail
    refine (sKeysOk_L kI0 (RdL.b kH) kL1n).mono ?_
    rintro e w1 ⟨rfl, b1⟩
    have z1 := b1.size
    try simp only [World.size_alloc, World.size_setCell, size_drew] at z1
    have B1 : Below w.heap.size w w1 := Below.t b1
    have xk_ : Box w1 (w.heap.size) #[.int .i64 kI0, (.slice kA1 kn1 kc1)] 33 := ((Box.new (g := w.heap.size) _ #[.int .i64 kI0, (.slice kA1 kn1 kc1)] 33 (by simp)).alloc _).below b1 (by first | omega | (simp [size_drew]; done) | (simp [size_drew]; omega))
    have xk := xk_; clear xk_
    have xa_ : Box w1 (w.heap.size + 1) #[(.slice aA0 an0 ac0), (.slice aA1 an1 ac1)] 38 := (Box.new (g := w.heap.size + 1) _ #[(.slice aA0 an0 ac0), (.slice aA1 an1 ac1)] 38 (by simp)).below b1 (by first | omega | (simp [size_drew]; done) | (simp [size_drew]; omega))
    have xa := xa_; clear xa_
    go_wp2
    go_ret
    exact ⟨ret_bool (by rw [HE.out]; simp_all), by repeat (with_reducible (first | assumption | exact Below.refl _ _ | refine Below.alloc ?_ (by first | omega | (simp; done) | (simp; omega)) _ | refine Below.setCell ?_ (by first | omega | (simp; done) | (simp; omega)) _ | refine Below.drew ?_ | refine below_drewN ?_ _))⟩
  | true =>
    cases k2 : elem kI0 oI0 with
    | false =>
      go_enter Try.func41, Try.ntmps41
      go_wp2_with fail
      refine (sKeysOk_L kI0 (RdL.b kH) kL1n).mono ?_
      rintro e w1 ⟨rfl, b1⟩
      have z1 := b1.size
      try simp only [World.size_alloc, World.size_setCell, size_drew] at z1
      have B1 : Below w.heap.size w w1 := Below.t b1
      have xk_ : Box w1 (w.heap.size) #[.int .i64 kI0, (.slice kA1 kn1 kc1)] 33 := ((Box.new (g := w.heap.size) _ #[.int .i64 kI0, (.slice kA1 kn1 kc1)] 33 (by simp)).alloc _).below b1 (by first | omega | (simp [size_drew]; done) | (simp [size_drew]; omega))
      have xk := xk_; clear xk_
      have xa_ : Box w1 (w.heap.size + 1) #[(.slice aA0 an0 ac0), (.slice aA1 an1 ac1)] 38 := (Box.new (g := w.heap.size + 1) _ #[(.slice aA0 an0 ac0), (.slice aA1 an1 ac1)] 38 (by simp)).below b1 (by first | omega | (simp [size_drew]; done) | (simp [size_drew]; omega))
      have xa := xa_; clear xa_
      obtain ⟨cxk_0, cxk_1, fxk_0, fxk_1⟩ := xk.two
      have l_xk_0 : w.heap.size < w1.heap.size := by omega
      obtain ⟨cxa_0, cxa_1, fxa_0, fxa_1⟩ := xa.two
      have l_xa_0 : w.heap.size + 1 < w1.heap.size := by omega
      go_wp2_with fail
      refine (sIsElement_any _ _ _).mono ?_
      rintro e w_ ⟨rfl, rfl⟩
      go_wp2
      go_ret
      exact ⟨ret_bool (by rw [HE.out]; simp_all), by repeat (with_reducible (first | assumption | exact Below.refl _ _ | refine Below.alloc ?_ (by first | omega | (simp; done) | (simp; omega)) _ | refine Below.setCell ?_ (by first | omega | (simp; done) | (simp; omega)) _ | refine Below.drew ?_ | refine below_drewN ?_ _))⟩
    | true =>
      cases t1 : ((an1 : Int) != (kn1 : Int)) with
      | true =>
        have q1d : decide (an1 = kn1) = false := by simp at t1 ⊢; omega
        go_enter Try.func41, Try.ntmps41
        go_wp2_with fail
        refine (sKeysOk_L kI0 (RdL.b kH) kL1n).mono ?_
        rintro e w1 ⟨rfl, b1⟩
        have z1 := b1.size
        try simp only [World.size_alloc, World.size_setCell, size_drew] at z1
        have B1 : Below w.heap.size w w1 := Below.t b1
        have xk_ : Box w1 (w.heap.size) #[.int .i64 kI0, (.slice kA1 kn1 kc1)] 33 := ((Box.new (g := w.heap.size) _ #[.int .i64 kI0, (.slice kA1 kn1 kc1)] 33 (by simp)).alloc _).below b1 (by first | omega | (simp [size_drew]; done) | (simp [size_drew]; omega))
        have xk := xk_; clear xk_
        have xa_ : Box w1 (w.heap.size + 1) #[(.slice aA0 an0 ac0), (.slice aA1 an1 ac1)] 38 := (Box.new (g := w.heap.size + 1) _ #[(.slice aA0 an0 ac0), (.slice aA1 an1 ac1)] 38 (by simp)).below b1 (by first | omega | (simp [size_drew]; done) | (simp [size_drew]; omega))
        have xa := xa_; clear xa_
        obtain ⟨cxk_0, cxk_1, fxk_0, fxk_1⟩ := xk.two
        have l_xk_0 : w.heap.size < w1.heap.size := by omega
        obtain ⟨cxa_0, cxa_1, fxa_0, fxa_1⟩ := xa.two
        have l_xa_0 : w.heap.size + 1 < w1.heap.size := by omega
        go_wp2_with fail
        refine (sIsElement_any _ _ _).mono ?_
        rintro e w_ ⟨rfl, rfl⟩
        go_wp2
        go_ret
        exact ⟨ret_bool (by rw [HE.out]; simp_all), by repeat (with_reducible (first | assumption | exact Below.refl _ _ | refine Below.alloc ?_ (by first | omega | (simp; done) | (simp; omega)) _ | refine Below.setCell ?_ (by first | omega | (simp; done) | (simp; omega)) _ | refine Below.drew ?_ | refine below_drewN ?_ _))⟩
      | false =>
        have q1d : decide (an1 = kn1) = true := by simp at t1 ⊢; omega
        cases k3 : allEl kI0 aL1 with
        | false =>
          go_enter Try.func41, Try.ntmps41
          go_wp2_with fail
          refine (sKeysOk_L kI0 (RdL.b kH) kL1n).mono ?_
          rintro e w1 ⟨rfl, b1⟩
          have z1 := b1.size
          try simp only [World.size_alloc, World.size_setCell, size_drew] at z1
          have B1 : Below w.heap.size w w1 := Below.t b1
          have xk_ : Box w1 (w.heap.size) #[.int .i64 kI0, (.slice kA1 kn1 kc1)] 33 := ((Box.new (g := w.heap.size) _ #[.int .i64 kI0, (.slice kA1 kn1 kc1)] 33 (by simp)).alloc _).below b1 (by first | omega | (simp [size_drew]; done) | (simp [size_drew]; omega))
          have xk := xk_; clear xk_
          have xa_ : Box w1 (w.heap.size + 1) #[(.slice aA0 an0 ac0), (.slice aA1 an1 ac1)] 38 := (Box.new (g := w.heap.size + 1) _ #[(.slice aA0 an0 ac0), (.slice aA1 an1 ac1)] 38 (by simp)).below b1 (by first | omega | (simp [size_drew]; done) | (simp [size_drew]; omega))
          have xa := xa_; clear xa_
          obtain ⟨cxk_0, cxk_1, fxk_0, fxk_1⟩ := xk.two
          have l_xk_0 : w.heap.size < w1.heap.size := by omega
          obtain ⟨cxa_0, cxa_1, fxa_0, fxa_1⟩ := xa.two
          have l_xa_0 : w.heap.size + 1 < w1.heap.size := by omega
          go_wp2_with fail
          refine (sIsElement_any _ _ _).mono ?_
          rintro e w_ ⟨rfl, rfl⟩
          go_wp2_with fail
          refine (l03All_any _ _ _ _ _ _ aL1i.b (by omega)).mono ?_
          rintro e w_ ⟨rfl, rfl⟩
          go_wp2
          go_ret
          exact ⟨ret_bool (by rw [HE.out]; simp_all), by repeat (with_reducible (first | assumption | exact Below.refl _ _ | refine Below.alloc ?_ (by first | omega | (simp; done) | (simp; omega)) _ | refine Below.setCell ?_ (by first | omega | (simp; done) | (simp; omega)) _ | refine Below.drew ?_ | refine below_drewN ?_ _))⟩
        | true =>
          go_enter Try.func41, Try.ntmps41
          go_wp2_with fail
          refine (sKeysOk_L kI0 (RdL.b kH) kL1n).mono ?_
          rintro e w1 ⟨rfl, b1⟩
          have z1 := b1.size
          try simp only [World.size_alloc, World.size_setCell, size_drew] at z1
          have B1 : Below w.heap.size w w1 := Below.t b1
          have xk_ : Box w1 (w.heap.size) #[.int .i64 kI0, (.slice kA1 kn1 kc1)] 33 := ((Box.new (g := w.heap.size) _ #[.int .i64 kI0, (.slice kA1 kn1 kc1)] 33 (by simp)).alloc _).below b1 (by first | omega | (simp [size_drew]; done) | (simp [size_drew]; omega))
          have xk := xk_; clear xk_
          have xa_ : Box w1 (w.heap.size + 1) #[(.slice aA0 an0 ac0), (.slice aA1 an1 ac1)] 38 := (Box.new (g := w.heap.size + 1) _ #[(.slice aA0 an0 ac0), (.slice aA1 an1 ac1)] 38 (by simp)).below b1 (by first | omega | (simp [size_drew]; done) | (simp [size_drew]; omega))
          have xa := xa_; clear xa_
          obtain ⟨cxk_0, cxk_1, fxk_0, fxk_1⟩ := xk.two
          have l_xk_0 : w.heap.size < w1.heap.size := by omega
          obtain ⟨cxa_0, cxa_1, fxa_0, fxa_1⟩ := xa.two
          have l_xa_0 : w.heap.size + 1 < w1.heap.size := by omega
          go_wp2_with fail
          refine (sIsElement_any _ _ _).mono ?_
          rintro e w_ ⟨rfl, rfl⟩
          go_wp2_with fail
          refine (l03All_any _ _ _ _ _ _ aL1i.b (by omega)).mono ?_
          rintro e w_ ⟨rfl, rfl⟩
          obtain ⟨cxk_0, cxk_1, fxk_0, fxk_1⟩ := xk.two
          have l_xk_0 : w.heap.size < w1.heap.size := by omega
          obtain ⟨cxa_0, cxa_1, fxa_0, fxa_1⟩ := xa.two
          have l_xa_0 : w.heap.size + 1 < w1.heap.size := by omega
          go_wp2_with fail
          clear cxk_0 cxk_1 fxk_0 fxk_1 l_xk_0 cxa_0 cxa_1 fxa_0 fxa_1 l_xa_0
          refine wp_region_held_drew (S := fun W => W.cell? ⟨w.heap.size, 0, none⟩ = some (.int .i64 kI0) ∧ W.cell? ⟨w.heap.size, 1, none⟩ = some ((.slice kA1 kn1 kc1)) ∧ W.cell? ⟨w.heap.size + 1, 0, none⟩ = some ((.slice aA0 an0 ac0)) ∧ W.cell? ⟨w.heap.size + 1, 1, none⟩ = some ((.slice aA1 an1 ac1))) (by kernel_rfl) ⟨xk.drew.two.1, xk.drew.two.2.1, xa.drew.two.1, xa.drew.two.2.1⟩ (fun hS => ?_)
          (refine tk 0 hS ?_; (try simp only [Act.put, layA, layB, layC]))
          (refine tk 1 hS ?_; (try simp only [Act.put, layA, layB, layC]))
          (refine tk 2 hS ?_; (try simp only [Act.put, layA, layB, layC]))
          (refine tk 3 hS ?_; (try simp only [Act.put, layA, layB, layC]))
          (refine tk 5 hS ?_; (try simp only [Act.put, layA, layB, layC]))
          (refine tk 6 hS ?_; (try simp only [Act.put, layA, layB, layC]))
          (refine tk 7 hS ?_; (try simp only [Act.put, layA, layB, layC]))
          (refine tk 8 hS ?_; (try simp only [Act.put, layA, layB, layC]))
          refine on 4 ?_
          refine callH (by go_simp; (first | done | with_reducible rfl | exact ⟨rfl, rfl⟩)) ?_
          go_at_call 104
          refine (sFSum_any _ _ _ _ _ _ aL1i.b (by omega)).mono ?_
          rintro e w_ ⟨rfl, rfl⟩
          refine ⟨_, rfl, hS, fun hS => ?_⟩
          (try simp only [Act.put, layA, layB, layC])
          refine on 9 ?_
          refine callH (by go_simp; (first | done | with_reducible rfl | exact ⟨rfl, rfl⟩)) ?_
          go_at_call 106
          refine (sl23Key_L kI0 (RdL.b kH) kL1n).mono ?_
          rintro e w2 ⟨rfl, b2⟩
          clear hS
          have z2 := Below.size b2
          (try simp only [World.size_alloc, World.size_setCell, size_drew] at z2)
          have B2 : Below w.heap.size w w2 := Below.t b2
          have xk_ : Box w2 (w.heap.size) #[.int .i64 kI0, (.slice kA1 kn1 kc1)] 33 := (Box.b xk.drew b2)
          clear xk; have xk := xk_; clear xk_
          have xa_ : Box w2 (w.heap.size + 1) #[(.slice aA0 an0 ac0), (.slice aA1 an1 ac1)] 38 := (Box.b xa.drew b2)
          clear xa; have xa := xa_; clear xa_
          refine ⟨_, rfl, ⟨xk.two.1, xk.two.2.1, xa.two.1, xa.two.2.1⟩, fun hS => ?_⟩
          (try simp only [Act.put, layA, layB, layC])
          refine on 10 ?_
          refine callH (by go_simp; (first | done | with_reducible rfl | exact ⟨rfl, rfl⟩)) ?_
          go_at_call 105
          refine (sFMul_any _ _ _ _).mono ?_
          rintro e w_ ⟨rfl, rfl⟩
          refine ⟨_, rfl, hS, fun hS => ?_⟩
          (try simp only [Act.put, layA, layB, layC])
          (refine tk 11 hS ?_; (try simp only [Act.put, layA, layB, layC]))
          (refine tk 12 hS ?_; (try simp only [Act.put, layA, layB, layC]))
          clear hS
          refine wpAnyH_done (by kernel_rfl) ?_ _
          go_wp2
          go_ret
          exact ⟨ret_bool (by rw [HE.out]; simp_all), by repeat (with_reducible (first | assumption | exact Below.refl _ _ | refine Below.alloc ?_ (by first | omega | (simp; done) | (simp; omega)) _ | refine Below.setCell ?_ (by first | omega | (simp; done) | (simp; omega)) _ | refine Below.drew ?_ | refine below_drewN ?_ _))⟩
set_option maxRecDepth 100000 in
set_option maxHeartbeats 2000000 in
theorem iMacCheck_L {kA1 : Option Addr} {kn1 kc1 : Nat} {kL1 : List Int} {aA0 : Option Addr} {an0 ac0 : Nat} {aL0 : List Int} {aA1 : Option Addr} {an1 ac1 : Nat} {aL1 : List Int} {w : World} (kI0 : Int) (kH : RdL w [((.slice kA1 kn1 kc1), .ints kL1)]) (kL1n : kL1.length ≤ 1048576) (oI0 : Int) (aH : RdL w [((.slice aA0 an0 ac0), .ints aL0), ((.slice aA1 an1 ac1), .ints aL1)]) (aL0n : aL0.length ≤ 1048576) (aL1n : aL1.length ≤ 1048576) :
    Calls Try.prog 39 #[.agg #[.int .i64 kI0, (.slice kA1 kn1 kc1)], .int .i64 oI0, .agg #[(.slice aA0 an0 ac0), (.slice aA1 an1 ac1)]] w fun e w' => e = .returned (.bool (macOk kI0 kL1 oI0 aL1)) ∧ Below w.heap.size w w' := by
  have kL1i : Ints w kA1 kn1 kL1 := Rd.toInts (kH ((.slice kA1 kn1 kc1), .ints kL1) (by simp))
  have kL1l := Lib.hid kL1i.len
  have kL1m : kn1 ≤ 1048576 := by rw [← kL1l.out]; exact kL1n
  have aL0i : Ints w aA0 an0 aL0 := Rd.toInts (aH ((.slice aA0 an0 ac0), .ints aL0) (by simp))
  have aL0l := Lib.hid aL0i.len
  have aL0m : an0 ≤ 1048576 := by rw [← aL0l.out]; exact aL0n
  have aL1i : Ints w aA1 an1 aL1 := Rd.toInts (aH ((.slice aA1 an1 ac1), .ints aL1) (by simp))
  have aL1l := Lib.hid aL1i.len
  have aL1m : an1 ≤ 1048576 := by rw [← aL1l.out]; exact aL1n
  have HE : Hid (macOk kI0 kL1 oI0 aL1 = (keysOk kI0 kL1 && elem kI0 oI0 && decide (an1 = kn1) && allEl kI0 aL1 && (fsum kI0 aL1 == fmul kI0 oI0 (fsum kI0 kL1)))) := by show _ = _; rw [macOk, kL1l.out, aL1l.out]
  cases k1 : keysOk kI0 kL1 with
  | false =>
    go_enter Try.func39, Try.ntmps39
    go_wp2_with fail
    refine (iKeysOk_L kI0 (RdL.b kH) kL1n).mono ?_
    rintro e w1 ⟨rfl, b1⟩
    have z1 := b1.size
    try simp only [World.size_alloc, World.size_setCell, size_drew] at z1
    have B1 : Below w.heap.size w w1 := Below.t b1
    have xk_ : Box w1 (w.heap.size) #[.int .i64 kI0, (.slice kA1 kn1 kc1)] 33 := ((Box.new (g := w.heap.size) _ #[.int .i64 kI0, (.slice kA1 kn1 kc1)] 33 (by simp)).alloc _).below b1 (by first | omega | (simp [size_drew]; done) | (simp [size_drew]; omega))
    have xk := xk_; clear xk_
    have xa_ : Box w1 (w.heap.size + 1) #[(.slice aA0 an0 ac0), (.slice aA1 an1 ac1)] 38 := (Box.new (g := w.heap.size + 1) _ #[(.slice aA0 an0 ac0), (.slice aA1 an1 ac1)] 38 (by simp)).below b1 (by first | omega | (simp [size_drew]; done) | (simp [size_drew]; omega))
    have xa := xa_; clear xa_
    go_wp2
    go_ret
    exact ⟨ret_bool (by rw [HE.out]; simp_all), by repeat (with_reducible (first | assumption | exact Below.refl _ _ | refine Below.alloc ?_ (by first | omega | (simp; done) | (simp; omega)) _ | refine Below.setCell ?_ (by first | omega | (simp; done) | (simp; omega)) _ | refine Below.drew ?_ | refine below_drewN ?_ _))⟩
  | true =>
    cases k2 : elem kI0 oI0 with
    | false =>
      go_enter Try.func39, Try.ntmps39
      go_wp2_with fail
      refine (iKeysOk_L kI0 (RdL.b kH) kL1n).mono ?_
      rintro e w1 ⟨rfl, b1⟩
      have z1 := b1.size
      try simp only [World.size_alloc, World.size_setCell, size_drew] at z1
      have B1 : Below w.heap.size w w1 := Below.t b1
      have xk_ : Box w1 (w.heap.size) #[.int .i64 kI0, (.slice kA1 kn1 kc1)] 33 := ((Box.new (g := w.heap.size) _ #[.int .i64 kI0, (.slice kA1 kn1 kc1)] 33 (by simp)).alloc _).below b1 (by first | omega | (simp [size_drew]; done) | (simp [size_drew]; omega))
      have xk := xk_; clear xk_
      have xa_ : Box w1 (w.heap.size + 1) #[(.slice aA0 an0 ac0), (.slice aA1 an1 ac1)] 38 := (Box.new (g := w.heap.size + 1) _ #[(.slice aA0 an0 ac0), (.slice aA1 an1 ac1)] 38 (by simp)).below b1 (by first | omega | (simp [size_drew]; done) | (simp [size_drew]; omega))
      have xa := xa_; clear xa_
      obtain ⟨cxk_0, cxk_1, fxk_0, fxk_1⟩ := xk.two
      have l_xk_0 : w.heap.size < w1.heap.size := by omega
      obtain ⟨cxa_0, cxa_1, fxa_0, fxa_1⟩ := xa.two
      have l_xa_0 : w.heap.size + 1 < w1.heap.size := by omega
      go_wp2_with fail
      refine (iIsElement_any _ _ _).mono ?_
      rintro e w_ ⟨rfl, rfl⟩
      go_wp2
      go_ret
      exact ⟨ret_bool (by rw [HE.out]; simp_all), by repeat (with_reducible (first | assumption | exact Below.refl _ _ | refine Below.alloc ?_ (by first | omega | (simp; done) | (simp; omega)) _ | refine Below.setCell ?_ (by first | omega | (simp; done) | (simp; omega)) _ | refine Below.drew ?_ | refine below_drewN ?_ _))⟩
    | true =>
      cases t1 : ((an1 : Int) != (kn1 : Int)) with
      | true =>
        have q1d : decide (an1 = kn1) = false := by simp at t1 ⊢; omega
        go_enter Try.func39, Try.ntmps39
        go_wp2_with fail
        refine (iKeysOk_L kI0 (RdL.b kH) kL1n).mono ?_
        rintro e w1 ⟨rfl, b1⟩
        have z1 := b1.size
        try simp only [World.size_alloc, World.size_setCell, size_drew] at z1
        have B1 : Below w.heap.size w w1 := Below.t b1
        have xk_ : Box w1 (w.heap.size) #[.int .i64 kI0, (.slice kA1 kn1 kc1)] 33 := ((Box.new (g := w.heap.size) _ #[.int .i64 kI0, (.slice kA1 kn1 kc1)] 33 (by simp)).alloc _).below b1 (by first | omega | (simp [size_drew]; done) | (simp [size_drew]; omega))
        have xk := xk_; clear xk_
        have xa_ : Box w1 (w.heap.size + 1) #[(.slice aA0 an0 ac0), (.slice aA1 an1 ac1)] 38 := (Box.new (g := w.heap.size + 1) _ #[(.slice aA0 an0 ac0), (.slice aA1 an1 ac1)] 38 (by simp)).below b1 (by first | omega | (simp [size_drew]; done) | (simp [size_drew]; omega))
        have xa := xa_; clear xa_
        obtain ⟨cxk_0, cxk_1, fxk_0, fxk_1⟩ := xk.two
        have l_xk_0 : w.heap.size < w1.heap.size := by omega
        obtain ⟨cxa_0, cxa_1, fxa_0, fxa_1⟩ := xa.two
        have l_xa_0 : w.heap.size + 1 < w1.heap.size := by omega
        go_wp2_with fail
        refine (iIsElement_any _ _ _).mono ?_
        rintro e w_ ⟨rfl, rfl⟩
        go_wp2
        go_ret
        exact ⟨ret_bool (by rw [HE.out]; simp_all), by repeat (with_reducible (first | assumption | exact Below.refl _ _ | refine Below.alloc ?_ (by first | omega | (simp; done) | (simp; omega)) _ | refine Below.setCell ?_ (by first | omega | (simp; done) | (simp; omega)) _ | refine Below.drew ?_ | refine below_drewN ?_ _))⟩
      | false =>
        have q1d : decide (an1 = kn1) = true := by simp at t1 ⊢; omega
        cases k3 : allEl kI0 aL1 with
        | false =>
          go_enter Try.func39, Try.ntmps39
          go_wp2_with fail
          refine (iKeysOk_L kI0 (RdL.b kH) kL1n).mono ?_
          rintro e w1 ⟨rfl, b1⟩
          have z1 := b1.size
          try simp only [World.size_alloc, World.size_setCell, size_drew] at z1
          have B1 : Below w.heap.size w w1 := Below.t b1
          have xk_ : Box w1 (w.heap.size) #[.int .i64 kI0, (.slice kA1 kn1 kc1)] 33 := ((Box.new (g := w.heap.size) _ #[.int .i64 kI0, (.slice kA1 kn1 kc1)] 33 (by simp)).alloc _).below b1 (by first | omega | (simp [size_drew]; done) | (simp [size_drew]; omega))
          have xk := xk_; clear xk_
          have xa_ : Box w1 (w.heap.size + 1) #[(.slice aA0 an0 ac0), (.slice aA1 an1 ac1)] 38 := (Box.new (g := w.heap.size + 1) _ #[(.slice aA0 an0 ac0), (.slice aA1 an1 ac1)] 38 (by simp)).below b1 (by first | omega | (simp [size_drew]; done) | (simp [size_drew]; omega))
          have xa := xa_; clear xa_
          obtain ⟨cxk_0, cxk_1, fxk_0, fxk_1⟩ := xk.two
          have l_xk_0 : w.heap.size < w1.heap.size := by omega
          obtain ⟨cxa_0, cxa_1, fxa_0, fxa_1⟩ := xa.two
          have l_xa_0 : w.heap.size + 1 < w1.heap.size := by omega
          go_wp2_with fail
          refine (iIsElement_any _ _ _).mono ?_
          rintro e w_ ⟨rfl, rfl⟩
          go_wp2_with fail
          refine (areElements_any _ _ _ _ _ _ aL1i.b (by omega)).mono ?_
          rintro e w_ ⟨rfl, rfl⟩
          go_wp2
          go_ret
          exact ⟨ret_bool (by rw [HE.out]; simp_all), by repeat (with_reducible (first | assumption | exact Below.refl _ _ | refine Below.alloc ?_ (by first | omega | (simp; done) | (simp; omega)) _ | refine Below.setCell ?_ (by first | omega | (simp; done) | (simp; omega)) _ | refine Below.drew ?_ | refine below_drewN ?_ _))⟩
        | true =>
          go_enter Try.func39, Try.ntmps39
          go_wp2_with fail
          refine (iKeysOk_L kI0 (RdL.b kH) kL1n).mono ?_
          rintro e w1 ⟨rfl, b1⟩
          have z1 := b1.size
          try simp only [World.size_alloc, World.size_setCell, size_drew] at z1
          have B1 : Below w.heap.size w w1 := Below.t b1
          have xk_ : Box w1 (w.heap.size) #[.int .i64 kI0, (.slice kA1 kn1 kc1)] 33 := ((Box.new (g := w.heap.size) _ #[.int .i64 kI0, (.slice kA1 kn1 kc1)] 33 (by simp)).alloc _).below b1 (by first | omega | (simp [size_drew]; done) | (simp [size_drew]; omega))
          have xk := xk_; clear xk_
          have xa_ : Box w1 (w.heap.size + 1) #[(.slice aA0 an0 ac0), (.slice aA1 an1 ac1)] 38 := (Box.new (g := w.heap.size + 1) _ #[(.slice aA0 an0 ac0), (.slice aA1 an1 ac1)] 38 (by simp)).below b1 (by first | omega | (simp [size_drew]; done) | (simp [size_drew]; omega))
          have xa := xa_; clear xa_
          obtain ⟨cxk_0, cxk_1, fxk_0, fxk_1⟩ := xk.two
          have l_xk_0 : w.heap.size < w1.heap.size := by omega
          obtain ⟨cxa_0, cxa_1, fxa_0, fxa_1⟩ := xa.two
          have l_xa_0 : w.heap.size + 1 < w1.heap.size := by omega
          go_wp2_with fail
          refine (iIsElement_any _ _ _).mono ?_
          rintro e w_ ⟨rfl, rfl⟩
          go_wp2_with fail
          refine (areElements_any _ _ _ _ _ _ aL1i.b (by omega)).mono ?_
          rintro e w_ ⟨rfl, rfl⟩
          obtain ⟨cxk_0, cxk_1, fxk_0, fxk_1⟩ := xk.two
          have l_xk_0 : w.heap.size < w1.heap.size := by omega
          obtain ⟨cxa_0, cxa_1, fxa_0, fxa_1⟩ := xa.two
          have l_xa_0 : w.heap.size + 1 < w1.heap.size := by omega
          go_wp2_with fail
          clear cxk_0 cxk_1 fxk_0 fxk_1 l_xk_0 cxa_0 cxa_1 fxa_0 fxa_1 l_xa_0
          refine wp_region_held_drew (S := fun W => W.cell? ⟨w.heap.size, 0, none⟩ = some (.int .i64 kI0) ∧ W.cell? ⟨w.heap.size, 1, none⟩ = some ((.slice kA1 kn1 kc1)) ∧ W.cell? ⟨w.heap.size + 1, 0, none⟩ = some ((.slice aA0 an0 ac0)) ∧ W.cell? ⟨w.heap.size + 1, 1, none⟩ = some ((.slice aA1 an1 ac1))) (by kernel_rfl) ⟨xk.drew.two.1, xk.drew.two.2.1, xa.drew.two.1, xa.drew.two.2.1⟩ (fun hS => ?_)
          (refine tk 0 hS ?_; (try simp only [Act.put, layA, layB, layC]))
          (refine tk 1 hS ?_; (try simp only [Act.put, layA, layB, layC]))
          (refine tk 2 hS ?_; (try simp only [Act.put, layA, layB, layC]))
          (refine tk 3 hS ?_; (try simp only [Act.put, layA, layB, layC]))
          (refine tk 5 hS ?_; (try simp only [Act.put, layA, layB, layC]))
          (refine tk 6 hS ?_; (try simp only [Act.put, layA, layB, layC]))
          (refine tk 7 hS ?_; (try simp only [Act.put, layA, layB, layC]))
          (refine tk 8 hS ?_; (try simp only [Act.put, layA, layB, layC]))
          (refine tk 9 hS ?_; (try simp only [Act.put, layA, layB, layC]))
          (refine tk 10 hS ?_; (try simp only [Act.put, layA, layB, layC]))
          (refine tk 11 hS ?_; (try simp only [Act.put, layA, layB, layC]))
          refine on 4 ?_
          refine callH (by go_simp; (first | done | with_reducible rfl | exact ⟨rfl, rfl⟩)) ?_
          go_at_call 102
          refine (iFSum_any _ _ _ _ _ _ aL1i.b (by omega)).mono ?_
          rintro e w_ ⟨rfl, rfl⟩
          refine ⟨_, rfl, hS, fun hS => ?_⟩
          (try simp only [Act.put, layA, layB, layC])
          refine on 12 ?_
          refine callH (by go_simp; (first | done | with_reducible rfl | exact ⟨rfl, rfl⟩)) ?_
          go_at_call 102
          refine (iFSum_any _ _ _ _ _ _ kL1i.b (by omega)).mono ?_
          rintro e w_ ⟨rfl, rfl⟩
          refine ⟨_, rfl, hS, fun hS => ?_⟩
          (try simp only [Act.put, layA, layB, layC])
          refine on 13 ?_
          refine callH (by go_simp; (first | done | with_reducible rfl | exact ⟨rfl, rfl⟩)) ?_
          go_at_call 101
          refine (iFMul_any _ _ _ _).mono ?_
          rintro e w2 ⟨rfl, b2⟩
          clear hS
          have z2 := Below.size b2
          (try simp only [World.size_alloc, World.size_setCell, size_drew] at z2)
          have B2 : Below w.heap.size w w2 := Below.t b2
          have xk_ : Box w2 (w.heap.size) #[.int .i64 kI0, (.slice kA1 kn1 kc1)] 33 := (Box.b xk.drew b2)
          clear xk; have xk := xk_; clear xk_
          have xa_ : Box w2 (w.heap.size + 1) #[(.slice aA0 an0 ac0), (.slice aA1 an1 ac1)] 38 := (Box.b xa.drew b2)
          clear xa; have xa := xa_; clear xa_
          refine ⟨_, rfl, ⟨xk.two.1, xk.two.2.1, xa.two.1, xa.two.2.1⟩, fun hS => ?_⟩
          (try simp only [Act.put, layA, layB, layC])
          (refine tk 14 hS ?_; (try simp only [Act.put, layA, layB, layC]))
          (refine tk 15 hS ?_; (try simp only [Act.put, layA, layB, layC]))
          clear hS
          refine wpAnyH_done (by kernel_rfl) ?_ _
          go_wp2
          go_ret
          exact ⟨ret_bool (by rw [HE.out]; simp_all), by repeat (with_reducible (first | assumption | exact Below.refl _ _ | refine Below.alloc ?_ (by first | omega | (simp; done) | (simp; omega)) _ | refine Below.setCell ?_ (by first | omega | (simp; done) | (simp; omega)) _ | refine Below.drew ?_ | refine below_drewN ?_ _))⟩
end Go.Proofs.Ytllnnbmgdbinnaa

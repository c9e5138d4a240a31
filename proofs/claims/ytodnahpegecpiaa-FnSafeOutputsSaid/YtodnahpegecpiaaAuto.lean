/- Short forms: the side conditions of often used lemmas are found by themselves. -/
import Derived.Test.YtodnahpegecpiaaReg
import Derived.Test.YtodnahpegecpiaaRegA
import Derived.Test.YtodnahpegecpiaaHl
namespace Go.Proofs.Ytodnahpegecpiaa
set_option linter.unusedSimpArgs false
set_option linter.unusedVariables false
open Go.RowKit
/-- A cell of old memory. -/
theorem cellB {w w' : World} {g i : Nat} {v : Value} (hg : g < w.heap.size) (hc : w.cell? ⟨g, i, none⟩ = some v) (hb : Below w.heap.size w w' := by repeat (with_reducible (first | assumption | exact Below.refl _ _ | refine Below.alloc ?_ (by first | omega | (simp; done) | (simp; omega)) _ | refine Below.setCell ?_ (by first | omega | (simp; done) | (simp; omega)) _ | refine Below.drew ?_ | refine below_drewN ?_ _))) : w'.cell? ⟨g, i, none⟩ = some v := (hb.cell hg).trans hc
theorem RdL.b {w w' : World} {ls : List (Value × Dat)} (h : RdL w ls) (hb : Below w.heap.size w w' := by repeat (with_reducible (first | assumption | exact Below.refl _ _ | refine Below.alloc ?_ (by first | omega | (simp; done) | (simp; omega)) _ | refine Below.setCell ?_ (by first | omega | (simp; done) | (simp; omega)) _ | refine Below.drew ?_ | refine below_drewN ?_ _))) : RdL w' ls := h.below hb
theorem Rd.b {w w' : World} {v : Value} {l : List Int} (h : Rd w v l) (hb : Below w.heap.size w w' := by repeat (with_reducible (first | assumption | exact Below.refl _ _ | refine Below.alloc ?_ (by first | omega | (simp; done) | (simp; omega)) _ | refine Below.setCell ?_ (by first | omega | (simp; done) | (simp; omega)) _ | refine Below.drew ?_ | refine below_drewN ?_ _))) : Rd w' v l := h.below hb
theorem Rd0.b {w w' : World} {v : Value} {l : List Int} (h : Rd0 w v l) (hb : Below w.heap.size w w' := by repeat (with_reducible (first | assumption | exact Below.refl _ _ | refine Below.alloc ?_ (by first | omega | (simp; done) | (simp; omega)) _ | refine Below.setCell ?_ (by first | omega | (simp; done) | (simp; omega)) _ | refine Below.drew ?_ | refine below_drewN ?_ _))) : Rd0 w' v l := h.below hb
theorem Ints.b {w w' : World} {A : Option Addr} {n : Nat} {l : List Int} (h : Ints w A n l) (hb : Below w.heap.size w w' := by repeat (with_reducible (first | assumption | exact Below.refl _ _ | refine Below.alloc ?_ (by first | omega | (simp; done) | (simp; omega)) _ | refine Below.setCell ?_ (by first | omega | (simp; done) | (simp; omega)) _ | refine Below.drew ?_ | refine below_drewN ?_ _))) : Ints w' A n l := h.below hb
theorem Box.b {w w' : World} {g B : Nat} {cs : Array Value} {t : TypeId} (h : Box w g cs t) (hb : Below B w w') (hg : g < B := by first | omega | (simp [size_drew]; done) | (simp [size_drew]; omega)) : Box w' g cs t := h.below hb hg
theorem Below.t {a b c : World} {B B' : Nat} (h : Below B' b c) (h1 : Below B a b := by repeat (with_reducible (first | assumption | exact Below.refl _ _ | refine Below.alloc ?_ (by first | omega | (simp; done) | (simp; omega)) _ | refine Below.setCell ?_ (by first | omega | (simp; done) | (simp; omega)) _ | refine Below.drew ?_ | refine below_drewN ?_ _))) (h2 : B ≤ B' := by first | omega | (simp [size_drew]; done) | (simp [size_drew]; omega)) : Below B a c := Below.trans h1 (h.mono h2)
section
variable {P : Program} {ops : Array Oper} {Q : Exit → Act → World → Prop} {md : Region.Mode} {S : World → Prop}
variable {i j : Nat} {oi oj : Oper} {fuel : Nat} {listed : Array Bool} {a : Act} {w : World}
theorem tk {v : Value} (i : Nat) (hS : S w) (h : wpAnyH P md ops Q S fuel (listed.setIfInBounds i true) (a.put oi.dst v) w)
    (hi : ops[i]? = some oi := by simp only [List.getElem?_toArray, List.getElem?_cons_succ, List.getElem?_cons_zero] <;> rfl)
    (hs : Region.noSelect ops = true := by kernel_rfl) (hf : Region.free md ops listed i = true := by kernel_rfl) (hr : (Region.ready md ops listed).contains i = true := by kernel_rfl)
    (hQ : ∀ c a w, Q (.panic c) (a.put oi.dst v) w → Q (.panic c) a w := by exact fun _ _ _ h => h) (hw : Region.wanted oi (yielded ops a.tmps) = true := by rfl)
    (hy : ∀ W, S W → (execOp a.eval oi).run P W = .ok (.value v) W := by intro W hSw; (try dsimp only at hSw); go_simp; (first | done | with_reducible rfl)) : wpAnyH P md ops Q S (fuel + 1) listed a w :=
  takeH hi hs hf hr hQ hw hy hS h
theorem ps (i : Nat) (hS : S w) (h : wpAnyH P md ops Q S fuel (listed.setIfInBounds i true) (a.put oi.dst undef) w)
    (hi : ops[i]? = some oi := by simp only [List.getElem?_toArray, List.getElem?_cons_succ, List.getElem?_cons_zero] <;> rfl)
    (hs : Region.noSelect ops = true := by kernel_rfl) (hf : Region.free md ops listed i = true := by kernel_rfl) (hr : (Region.ready md ops listed).contains i = true := by kernel_rfl)
    (hQ : ∀ c a w, Q (.panic c) (a.put oi.dst undef) w → Q (.panic c) a w := by exact fun _ _ _ h => h) (hw : Region.wanted oi (yielded ops a.tmps) = false := by rfl) : wpAnyH P md ops Q S (fuel + 1) listed a w :=
  passH hi hs hf hr hQ hw hS h
theorem on (i : Nat) (h : StepH P md ops Q S fuel listed i oi a w) (hi : ops[i]? = some oi := by simp only [List.getElem?_toArray, List.getElem?_cons_succ, List.getElem?_cons_zero] <;> rfl) (hr : Region.ready md ops listed = [i] := by kernel_rfl)
    (hw : Region.wanted oi (yielded ops a.tmps) = true := by rfl) : wpAnyH P md ops Q S (fuel + 1) listed a w := onlyH hi hr hw h
end
section
variable {P : Program} {ops : Array Oper} {Q : Exit → Act → World → Prop} {md : Region.Mode} {Z : List Nat} {A : List AE}
variable {fuel : Nat} {listed : Array Bool} {a : Act} {w : World} {i : Nat} {oi : Oper} {v : Value} {gs : List (Nat × Nat)}
theorem tkM (i : Nat) (hG : ∀ x ∈ gs, x.2 ≤ w.heap.size) {S : World → Prop} (hS : ∀ W, Later w W → S W) (h : wpM P md ops Q Z A fuel gs (listed.setIfInBounds i true) (a.put oi.dst v) w)
    (hi : ops[i]? = some oi := by simp only [List.getElem?_toArray, List.getElem?_cons_succ, List.getElem?_cons_zero] <;> rfl) (hm : mayB md ops Z listed i = true := by kernel_rfl)
    (hQ : ∀ c a w, Q (.panic c) (a.put oi.dst v) w → Q (.panic c) a w := by exact fun _ _ _ h => h) (hw : Region.wanted oi (yielded ops a.tmps) = true := by rfl)
    (hv : ∀ W, S W → (execOp a.eval oi).run P W = .ok (.value v) W := by intro W hSw; (try dsimp only at hSw); go_simp; (first | done | with_reducible rfl)) : wpM P md ops Q Z A (fuel + 1) gs listed a w :=
  takeM hG hi hm hQ hw (fun W hW => hv W (hS W hW)) h
theorem tkY (i : Nat) (hG : ∀ x ∈ gs, x.2 ≤ w.heap.size) (h : wpM P md ops Q Z A fuel gs (listed.setIfInBounds i true) (a.put oi.dst v) w)
    (hi : ops[i]? = some oi := by simp only [List.getElem?_toArray, List.getElem?_cons_succ, List.getElem?_cons_zero] <;> rfl) (hm : mayYB md ops Z A listed i = true := by kernel_rfl)
    (hQ : ∀ c a w, Q (.panic c) (a.put oi.dst v) w → Q (.panic c) a w := by exact fun _ _ _ h => h) (hw : Region.wanted oi (yielded ops a.tmps) = true := by rfl)
    (hv : ∀ W, (execOp a.eval oi).run P W = .ok (.value v) W := by intro W; go_simp; (first | done | with_reducible rfl)) : wpM P md ops Q Z A (fuel + 1) gs listed a w :=
  takeMY hG hi hm hQ hw hv h
end
end Go.Proofs.Ytodnahpegecpiaa

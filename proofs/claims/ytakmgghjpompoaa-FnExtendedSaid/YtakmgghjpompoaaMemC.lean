/- Members of owned rows; a store into an owned slice; contracts of ExtMask and ExtSend over owned rows. -/
import Derived.Test.YtakmgghjpompoaaRaB
import Derived.Test.YtakmgghjpompoaaExtMask
import Derived.Test.YtakmgghjpompoaaExtSendR
namespace Go.Proofs.Ytakmgghjpompoaa
set_option linter.unusedSimpArgs false
set_option linter.unusedVariables false
open Go.RowKit
/-- What holds in every world may be said stronger on the way. -/
theorem wpAnyH_mono {P : Program} {ops : Array Oper} {Q : Exit → Act → World → Prop} {md : Region.Mode} {S S2 : World → Prop} (hs : ∀ W, S2 W → S W) :
    ∀ {fuel : Nat} {listed : Array Bool} {a : Act} {w : World}, wpAnyH P md ops Q S2 fuel listed a w → wpAnyH P md ops Q S fuel listed a w
  | 0, _, _, _, h => h
  | _ + 1, _, _, _, h => ⟨h.1, fun i hi => wpOp_mono (fun _ _ h' => ⟨hs _ h'.1, wpAnyH_mono hs h'.2⟩) (h.2 i hi)⟩
theorem OwnL.cellAt {w : World} {lo hi g o n c : Nat} {l : List Int} (h : OwnL w lo hi [(.slice (some ⟨g, o, none⟩) n c, .ints l)]) (j : Nat) (hj : j < l.length) : w.cell? ⟨g, o + j, none⟩ = some (.int .i64 (nth l j)) := by
 obtain ⟨A, m, d, e, hI⟩ := h.rd.ints
 cases e
 have hl := hI.len
 obtain ⟨g', o', e', _, hc⟩ := hI.block (by omega)
 cases e'
 exact hc j (by omega)
theorem OwnL.some {w : World} {lo hi n c : Nat} {A : Option Addr} {l : List Int} (h : OwnL w lo hi [(.slice A n c, .ints l)]) (hl : 0 < l.length) : ∃ g o, A = some ⟨g, o, none⟩ := by
 obtain ⟨A', m, d, e, hI⟩ := h.rd.ints
 cases e
 obtain ⟨g', o', e', _, _⟩ := hI.block (by rw [← hI.len]; exact hl)
 exact ⟨g', o', e'⟩
theorem ownCell {w : World} {lo hi g o n c : Nat} {l : List Int} {ls : List (Value × Dat)} (h : OwnL w lo hi ls) (hm : ((.slice (some ⟨g, o, none⟩) n c, .ints l) : Value × Dat) ∈ ls) (j : Nat) (hj : j < l.length) : w.cell? ⟨g, o + j, none⟩ = some (.int .i64 (nth l j)) := by
 obtain ⟨A, m, d, e, hI⟩ : Rd w (.slice (some ⟨g, o, none⟩) n c) l := h.rd _ hm
 cases e
 have hl := hI.len
 obtain ⟨g', o', e', _, hc⟩ := hI.block (by omega)
 cases e'
 exact hc j (by omega)
theorem ownSome {w : World} {lo hi n c : Nat} {A : Option Addr} {l : List Int} {ls : List (Value × Dat)} (h : OwnL w lo hi ls) (hm : ((.slice A n c, .ints l) : Value × Dat) ∈ ls) (hl : 0 < l.length) : ∃ g o, A = some ⟨g, o, none⟩ ∧ g < w.heap.size := by
 obtain ⟨A', m, d, e, hI⟩ : Rd w (.slice A n c) l := h.rd _ hm
 cases e
 obtain ⟨g', o', e', hg, _⟩ := hI.block (by rw [← hI.len]; exact hl)
 exact ⟨g', o', e', hg⟩
theorem ownLen {w : World} {lo hi n c : Nat} {A : Option Addr} {l : List Int} {ls : List (Value × Dat)} (h : OwnL w lo hi ls) (hm : ((.slice A n c, .ints l) : Value × Dat) ∈ ls) : n = l.length := by
 obtain ⟨A', m, d, e, hI⟩ : Rd w (.slice A n c) l := h.rd _ hm
 cases e
 exact hI.len.symm
theorem ownLenG {w : World} {lo hi n c : Nat} {A : Option Addr} {l : List (Int × Int × Int)} {ls : List (Value × Dat)} (h : OwnL w lo hi ls) (hm : ((.slice A n c, .gates l) : Value × Dat) ∈ ls) : n = l.length := by
 obtain ⟨A', m, d, e, hI⟩ : RdG w (.slice A n c) l := h.rd _ hm
 cases e
 exact hI.1.symm
section
variable {w : World} {lo hi g n c : Nat} {l : List Int}
theorem olOwn1 (h : OwnL w lo hi [(.slice (some ⟨g, 0, none⟩) n c, .ints l)]) : Own w lo (.slice (some ⟨g, 0, none⟩) n c) l := h.get (p := (.slice (some ⟨g, 0, none⟩) n c, .ints l)) (by simp)
theorem olLen1 (h : OwnL w lo hi [(.slice (some ⟨g, 0, none⟩) n c, .ints l)]) : l.length = n := (ownLen (A := some ⟨g, 0, none⟩) (n := n) (c := c) (l := l) h (by simp)).symm
theorem olCell0 (h : OwnL w lo hi [(.slice (some ⟨g, 0, none⟩) n c, .ints l)]) (j : Nat) (hj : j < l.length) : w.cell? ⟨g, j, none⟩ = some (.int .i64 (nth l j)) := (olOwn1 h).cellAt (olLen1 h) (by rw [← (olLen1 h)]; exact hj)
theorem olFrozen0 (h : OwnL w lo hi [(.slice (some ⟨g, 0, none⟩) n c, .ints l)]) (j : Nat) : w.frozen? ⟨g, j, none⟩ = false := (olOwn1 h).frozenAt (olLen1 h) j
theorem olStored (h : OwnL w lo hi [(.slice (some ⟨g, 0, none⟩) n c, .ints l)]) (j : Nat) (x : Int) :
    OwnL (w.setCell ⟨g, j, none⟩ (.int .i64 x)) lo hi [(.slice (some ⟨g, 0, none⟩) n c, .ints (l.set j x))] ∧ Chg lo hi w (w.setCell ⟨g, j, none⟩ (.int .i64 x)) := by
  obtain ⟨h1, h2⟩ := (olOwn1 h).stored (olLen1 h) j x
  have hD : OwnD (w.setCell ⟨g, j, none⟩ (.int .i64 x)) lo (.slice (some ⟨g, 0, none⟩) n c) (.ints (l.set j x)) := by unfold OwnD; exact h1
  exact ⟨OwnL.set (pre := []) (post := []) h hD h2, OwnL.chg (pre := []) (post := []) h h2⟩
/-- Where the data of a slice of its own lie. -/
theorem olAt0 {A : Option Addr} (h : OwnL w lo hi [(.slice A n c, .ints l)]) (hl : 0 < l.length) : ∃ g, A = some ⟨g, 0, none⟩ := by
  have h1 : Own w lo (.slice A n c) l := h.get (p := (.slice A n c, .ints l)) (by simp)
  obtain ⟨g, cap, e⟩ := Joins.ownsRow_form h1 hl
  cases e
  exact ⟨g, rfl⟩
end
theorem ownIn {w : World} {lo hi g o n c : Nat} {l : List Int} (h : OwnL w lo hi [(.slice (some ⟨g, o, none⟩) n c, .ints l)]) : g < w.heap.size := by
  have h1 : Own w lo (.slice (some ⟨g, o, none⟩) n c) l := h.get (p := (.slice (some ⟨g, o, none⟩) n c, .ints l)) (by simp)
  exact (h1.block g rfl).2
theorem Own.toL {w w' : World} {v : Value} {l : List Int} (h : Own w' w.heap.size v l) (hb : Below w.heap.size w w') : ∃ A n c, v = .slice A n c ∧ OwnL w' w.heap.size w'.heap.size [(.slice A n c, .ints l)] := by
  have hD : OwnD w' w.heap.size v (.ints l) := by unfold OwnD; exact h
  obtain ⟨A, n, c, rfl⟩ := hD.form
  exact ⟨A, n, c, rfl, OwnL.one hD hb.size⟩
theorem iExtMask_L {v : Value} {l : List Int} {w : World} (h : RdL w [(v, .ints l)]) (hn : l.length ≤ 1048576) :
    Calls Try.prog 47 #[v] w fun e w' => ∃ A n c, e = .returned (.slice A n c) ∧ OwnL w' w.heap.size w'.heap.size [(.slice A n c, .ints (extMaskL l))] ∧ Below w.heap.size w w' := by
  obtain ⟨A, n, c, rfl, hI⟩ := h.ints
  refine (iExtMask_any A n c l w hI (by rw [← hI.len]; exact hn)).mono ?_
  rintro e w' ⟨v', rfl, h1, h2⟩
  obtain ⟨A', n', c', rfl, h3⟩ := h1.toL h2
  exact ⟨A', n', c', rfl, h3, h2⟩
theorem iExtSend_L {v v2 : Value} {l l2 : List Int} {w : World} (s : Int) (h : RdL w [(v, .ints l)]) (hn : l.length ≤ 1048576) (h2 : RdL w [(v2, .ints l2)]) (hm : l2.length ≤ 1048576) :
    Calls Try.prog 54 #[v, v2, .int .i64 s] w fun e w' => ∃ A n c, e = .returned (.slice A n c) ∧ OwnL w' w.heap.size w'.heap.size [(.slice A n c, .ints (extSendL l l2 s))] ∧ Below w.heap.size w w' := by
  refine (iExtSend_R s h.ints h2.ints hn hm).mono ?_
  rintro e w' ⟨v', rfl, h3, h4⟩
  have h5 := h3.ownL h4.size
  obtain ⟨A', n', c', rfl⟩ := h5.form
  exact ⟨A', n', c', rfl, h5, h4⟩
end Go.Proofs.Ytakmgghjpompoaa

/- Regions that draw their order and make boxes of their own besides calls that leave old memory alone: the boxes' making may be put off. -/
import Derived.Test.YtodnahpegecpiaaBox
import Derived.Orders
import Derived.Below
namespace Go.Proofs.Ytodnahpegecpiaa
set_option linter.unusedSimpArgs false
set_option linter.unusedVariables false
open Go.RowKit
/-- The worlds that calls may leave behind w. -/
def Later (w w' : World) : Prop := Below w.heap.size w w'
theorem Later.refl (w : World) : Later w w := Below.refl _ _
theorem Later.trans {a b c : World} (h : Later a b) (k : Later b c) : Later a c := Below.trans h (Below.mono k (Below.size h))
theorem Later.alloc (w : World) (o : Obj) : Later w (w.alloc o) := Below.alloc (Below.refl _ _) (Nat.le_refl _) o
theorem Later.box {w w' : World} {g : Nat} {cs : Array Value} {t : TypeId} (h : Box w g cs t) (hl : Later w w') : Box w' g cs t := h.below hl h.lt
/-- An operation that makes a box: its number, its temporary, the box's cells and type. -/
abbrev AE := Nat × Tmp × Array Value × TypeId
def ptr (g : Nat) : Value := .pointer (some ⟨g, 0, none⟩)
/-- F holds, whatever addresses the boxes of A have, outside the ranges gs. -/
def Zc (F : Act → World → Prop) : List AE → List (Nat × Nat) → Act → World → Prop
  | [], _, a, w => F a w
  | e :: A, gs, a, w => ∀ g, Box w g e.2.2.1 e.2.2.2 → (∀ p ∈ gs, g < p.1 ∨ p.2 ≤ g) → Zc F A ((g, g + 1) :: gs) (a.put (some e.2.1) (ptr g)) w
def edgeB (md : Region.Mode) (ops : Array Oper) (m i : Nat) : Bool := ((ops[m]?).map fun o => o.after.any fun e => Region.binds md e && e.on == i).getD false
section
variable {P : Program} {ops : Array Oper} {Q : Exit → Act → World → Prop} {md : Region.Mode} {Z : List Nat} {A : List AE}
theorem edgeB_spec {m i : Nat} (h : edgeB md ops m i = true) : ∃ o, ops[m]? = some o ∧ ∃ e ∈ o.after, Region.binds md e = true ∧ e.on = i := by
  unfold edgeB at h
  cases ho : ops[m]? with
  | none => simp [ho] at h
  | some o =>
    simp only [ho, Option.map_some, Option.getD_some] at h
    obtain ⟨e, he, hb⟩ := Array.any_eq_true'.1 h
    simp only [Bool.and_eq_true, beq_iff_eq] at hb
    exact ⟨o, rfl, e, he, hb⟩
theorem waits_spec {z i : Nat} {listed : Array Bool} (h : edgeB md ops z i = true) (hi : listed.getD i false = false) : z ∉ Region.ready md ops listed := by
  intro hz
  obtain ⟨o, ho, e, he, hb, rfl⟩ := edgeB_spec h
  obtain ⟨_, o2, ho2, hall⟩ := mem_ready.1 hz
  rw [ho] at ho2; cases ho2
  rw [hall e he hb] at hi; cases hi
theorem getD_true {listed : Array Bool} {j : Nat} (h : listed.getD j true = false) : listed.getD j false = false := by
  rcases Nat.lt_or_ge j listed.size with hs | hs
  · simp [hs] at h ⊢; exact h
  · simp [Array.getElem?_eq_none hs] at h
theorem Zc.mono {F F' : Act → World → Prop} {w : World} (h : ∀ a, F a w → F' a w) : ∀ {A : List AE} {gs : List (Nat × Nat)} {a : Act}, Zc F A gs a w → Zc F' A gs a w
  | [], _, _, hz => h _ hz
  | _ :: _, _, _, hz => fun g h1 h2 => Zc.mono h (hz g h1 h2)
theorem Zc.put {F F' : Act → World → Prop} {w : World} {x : Option Tmp} {v : Value} (h : ∀ a, F (a.put x v) w → F' a w) : ∀ {A : List AE} {gs : List (Nat × Nat)} {a : Act}, (∀ e ∈ A, x ≠ some e.2.1) → Zc F A gs (a.put x v) w → Zc F' A gs a w
  | [], _, _, _, hz => h _ hz
  | e :: A, gs, a, hne, hz => fun g h1 h2 => Zc.put h (fun e' he => hne e' (by simp [he])) (by
      have := hz g h1 h2
      rwa [Act.put_comm a v (ptr g) (fun d hd he => hne e (by simp) (by rw [hd]; exact he.symm))] at this)
/-- Whatever order is picked from here on, in whatever later world; the makings of the boxes A are passed over (gs: addresses that are taken); the operations Z wait for them and may write. -/
def wpM (P : Program) (md : Region.Mode) (ops : Array Oper) (Q : Exit → Act → World → Prop) (Z : List Nat) (A : List AE) : Nat → List (Nat × Nat) → Array Bool → Act → World → Prop
  | 0, gs, listed, a, w => ∀ w', Later w w' → Region.ready md ops listed = [] ∧ Zc (Q .normal) A gs a w'
  | fuel + 1, gs, listed, a, w => ∀ w', Later w w' →
    (Region.ready md ops listed = [] → Zc (Q .normal) A gs a w') ∧
    ∀ i ∈ Region.ready md ops listed,
      (i ∉ Z → wpOp P ops Q i (fun a' w'' => Later w' w'' ∧ ∃ gs' : List (Nat × Nat), (∀ x ∈ gs', x ∈ gs ∨ w'.heap.size ≤ x.1) ∧ (∀ x ∈ gs', x.2 ≤ w''.heap.size) ∧ wpM P md ops Q Z A fuel gs' (listed.setIfInBounds i true) a' w'') a w') ∧
      (i ∈ Z → Zc (fun a w => wpOp P ops Q i (wpAny P md ops Q fuel (listed.setIfInBounds i true)) a w) A gs a w')
theorem wpM.later {fuel : Nat} {gs : List (Nat × Nat)} {listed : Array Bool} {a : Act} {w w' : World} (h : wpM P md ops Q Z A fuel gs listed a w) (hw : Later w w') : wpM P md ops Q Z A fuel gs listed a w' := by
  cases fuel with
  | zero => exact fun w2 h2 => h w2 (hw.trans h2)
  | succ fuel => exact fun w2 h2 => h w2 (hw.trans h2)
theorem wpAny_of_M : ∀ (fuel : Nat) (gs : List (Nat × Nat)) (listed : Array Bool) (a : Act) (w : World), wpM P md ops Q Z [] fuel gs listed a w → wpAny P md ops Q fuel listed a w
  | 0, _, _, _, w, h => h w (Later.refl w)
  | fuel + 1, _, _, _, w, h => ⟨(h w (Later.refl w)).1, fun i hi => by
      obtain ⟨h1, h2⟩ := (h w (Later.refl w)).2 i hi
      by_cases hz : i ∈ Z
      · exact h2 hz
      · exact wpOp_mono (fun a' w' h' => by obtain ⟨_, gs', _, _, h3⟩ := h'; exact wpAny_of_M fuel gs' _ a' w' h3) (h1 hz)⟩
/-- A value laid into a temporary that an operation does not touch. -/
theorem wpOp_more {j : Nat} {oj : Oper} {d : Tmp} {v : Value} (hj : ops[j]? = some oj) (h1 : d ∉ oj.looksAt ops) (h2 : oj.dst ≠ some d)
    (hsj : ∀ cs b, oj.op ≠ .select cs b) (hQ : ∀ c a w, Q (.panic c) a w → Q (.panic c) (a.put (some d) v) w) {K K' : Act → World → Prop} {a : Act} {w : World}
    (hK : ∀ a' w', K a' w' → K' (a'.put (some d) v) w') (h : wpOp P ops Q j K a w) : wpOp P ops Q j K' (a.put (some d) v) w := by
  have g1 : ∀ e, some d = some e → e ∉ oj.looksAt ops := fun e he => by cases he; exact h1
  have swap : ∀ u W, K (a.put oj.dst u) W → K' ((a.put (some d) v).put oj.dst u) W := fun u W hk => by
    rw [Act.put_comm a v u (fun e he hd => h2 (by rw [hd, ← he]))]; exact hK _ _ hk
  unfold wpOp at *
  simp only [hj] at *
  rw [wanted_put oj a (some d) v g1]
  cases hw : Region.wanted oj (yielded ops a.tmps) with
  | false =>
    simp only [hw, Bool.false_eq_true, if_false] at h ⊢
    exact swap _ _ h
  | true =>
    simp only [hw, if_true] at h ⊢
    have hex := execOp_put oj hsj a (some d) v g1
    rcases h with h | ⟨hasks, hlets⟩
    · refine .inl ?_
      unfold Oper.wp at *
      rw [hex]
      generalize (execOp a.eval oj).run P w = r at *
      cases r with
      | halt x w' => cases x <;> simp only [Oper.upon] at h ⊢; exact hQ _ _ _ h
      | ok n w' =>
        cases n <;> simp only [Oper.upon] at h ⊢
        case value u => exact swap _ _ h
        case skip => exact swap _ _ h
        case defer df =>
          have := hK _ _ h
          rw [Act.put_comm { a with defers := df :: a.defers } undef v (fun e he hd => h2 (by rw [he, hd]))] at this
          exact this
        case enter f args =>
          refine Calls.mono h fun e W he => ?_
          cases e with
          | returned u => exact swap _ _ he
          | panicked c => exact hQ _ _ _ he
          | outgrown => exact he
        case row row args => exact Rows.mono h fun u W he => swap _ _ he
    · exact .inr ⟨by unfold Oper.asks at *; rw [hex]; exact hasks, hlets⟩
/-- The conditions on a making of a box, as one Bool: nobody but Z looks at its temporary; it waits for nobody; all of Z wait for it. -/
def aloneB (md : Region.Mode) (ops : Array Oper) (Z : List Nat) (k : Nat) (d : Tmp) : Bool :=
  Region.noSelect ops && (Z.all fun z => edgeB md ops z k) && !Z.contains k &&
  ((ops[k]?).map fun o => o.after.isEmpty && o.dst == some d && o.guard.isNone).getD false &&
  ((List.range ops.size).all fun j => j == k || Z.contains j || ((ops[j]?).map fun o => !(o.looksAt ops).contains d && o.dst != some d).getD true)
theorem alone_spec {k : Nat} {d : Tmp} (h : aloneB md ops Z k d = true) : (∀ z ∈ Z, edgeB md ops z k = true) ∧ k ∉ Z ∧ (∀ j oj, ops[j]? = some oj → j ≠ k → j ∉ Z → d ∉ oj.looksAt ops ∧ oj.dst ≠ some d) ∧ Region.noSelect ops = true := by
  simp only [aloneB, Bool.and_eq_true, List.all_eq_true, Bool.not_eq_true', List.mem_range] at h
  obtain ⟨⟨⟨⟨h1, h2⟩, h3⟩, h4⟩, h5⟩ := h
  refine ⟨h2, fun hk => by simp [hk] at h3, fun j oj hj hjk hjz => ?_, h1⟩
  have := h5 j (Array.getElem?_eq_some_iff.1 hj).1
  simp only [hj, Option.map_some, Option.getD_some, Bool.or_eq_true, beq_iff_eq, hjk, List.contains_iff_mem, hjz, or_self, false_or, Bool.and_eq_true, Bool.not_eq_true', bne_iff_ne] at this
  refine ⟨fun hm => ?_, this.2⟩
  have h6 := this.1
  rw [← Bool.not_eq_true, List.contains_iff_mem] at h6
  exact h6 hm
variable {k : Nat} {d : Tmp} {cs : Array Value} {t : TypeId}
theorem M_done (hal : aloneB md ops Z k d = true) (hQ : ∀ c (g : Nat) a w, Q (.panic c) a w → Q (.panic c) (a.put (some d) (ptr g)) w) :
    ∀ (fuel : Nat) (gs : List (Nat × Nat)) (listed : Array Bool) (a : Act) (w : World) (g : Nat), wpM P md ops Q Z ((k, d, cs, t) :: A) fuel gs listed a w → listed.getD k false = true → Box w g cs t → (∀ p ∈ gs, g < p.1 ∨ p.2 ≤ g) →
      wpM P md ops Q Z A fuel ((g, g + 1) :: gs) listed (a.put (some d) (ptr g)) w := by
  obtain ⟨hzk, hkz, hap, hsel⟩ := alone_spec hal
  intro fuel
  induction fuel with
  | zero =>
    intro gs listed a w g h hk hb hg w' hw
    obtain ⟨h1, h2⟩ := h w' hw
    exact ⟨h1, h2 g (Later.box hb hw) hg⟩
  | succ fuel ih =>
    intro gs listed a w g h hk hb hg w' hw
    obtain ⟨h1, h2⟩ := h w' hw
    refine ⟨fun hr => h1 hr g (Later.box hb hw) hg, fun i hi => ⟨fun hz => ?_, fun hz => (h2 i hi).2 hz g (Later.box hb hw) hg⟩⟩
    have hik : i ≠ k := fun e => by
      have := getD_true (mem_ready.1 hi).1
      rw [e, hk] at this; cases this
    obtain ⟨_, oi, hoi, _⟩ := mem_ready.1 hi
    obtain ⟨g1, g2⟩ := hap i oi hoi hik hz
    refine wpOp_more hoi g1 g2 (fun cs b => Region.noSelect_spec hsel i oi cs b hoi) (fun c a w h => hQ c g a w h) (fun a' w2 hk2 => ?_) ((h2 i hi).1 hz)
    obtain ⟨hl, gs', c1, c2, hm⟩ := hk2
    have hb2 := Later.box (Later.box hb hw) hl
    refine ⟨hl, (g, g + 1) :: gs', fun x hx => ?_, fun x hx => ?_, ih gs' _ a' w2 g hm (getD_set_true hk) hb2 (fun p hp => ?_)⟩
    · rcases List.mem_cons.1 hx with rfl | hx
      · exact .inl (by simp)
      · rcases c1 x hx with h3 | h3
        · exact .inl (by simp [h3])
        · exact .inr h3
    · rcases List.mem_cons.1 hx with rfl | hx
      · exact hb2.lt
      · exact c2 x hx
    · rcases c1 p hp with h3 | h3
      · exact hg p h3
      · have := (Later.box hb hw).lt; omega
/-- The making of a box is put off. -/
theorem M_pend (hal : aloneB md ops Z k d = true) {ok : Oper} (hok : ops[k]? = some ok)
    (hQ : ∀ c (g : Nat) a w, Q (.panic c) a w → Q (.panic c) (a.put (some d) (ptr g)) w)
    (hrun : ∀ (a : Act) (w : World), (execOp a.eval ok).run P w = .ok (.value (ptr w.heap.size)) (w.alloc (.cells cs t))) :
    ∀ (fuel : Nat) (gs : List (Nat × Nat)) (listed : Array Bool) (a : Act) (w : World), k < listed.size → listed.getD k false = false → (∀ x ∈ gs, x.2 ≤ w.heap.size) →
      wpM P md ops Q Z ((k, d, cs, t) :: A) fuel gs (listed.setIfInBounds k true) a w → wpM P md ops Q Z A (fuel + 1) gs listed a w := by
  obtain ⟨hzk, hkz, hap, hsel⟩ := alone_spec hal
  have hshape : ok.after = #[] ∧ ok.dst = some d ∧ ok.guard = none := by
    simp only [aloneB, Bool.and_eq_true, hok, Option.map_some, Option.getD_some, beq_iff_eq, Array.isEmpty_iff, Option.isNone_iff_eq_none] at hal
    exact ⟨hal.1.2.1.1, hal.1.2.1.2, hal.1.2.2⟩
  obtain ⟨hs1, hs2, hs3⟩ := hshape
  have hready : ∀ (listed : Array Bool), k < listed.size → listed.getD k false = false → k ∈ Region.ready md ops listed := fun listed hlt h => mem_ready.2 ⟨by simp [hlt] at h ⊢; exact h, ok, hok, by rw [hs1]; intro e he; simp at he⟩
  have hset : ∀ (listed : Array Bool), k < listed.size → (listed.setIfInBounds k true).getD k false = true := fun listed hlt => by simp [hlt]
  have hwant : ∀ y, Region.wanted ok y = true := fun y => by unfold Region.wanted; rw [hs3]
  have step : ∀ (fuel : Nat) (gs : List (Nat × Nat)) (listed : Array Bool) (a : Act) (w w' : World), k < listed.size → Later w w' → (∀ x ∈ gs, x.2 ≤ w.heap.size) →
      wpM P md ops Q Z ((k, d, cs, t) :: A) fuel gs (listed.setIfInBounds k true) a w →
      wpOp P ops Q k (fun a' w'' => Later w' w'' ∧ ∃ gs' : List (Nat × Nat), (∀ x ∈ gs', x ∈ gs ∨ w'.heap.size ≤ x.1) ∧ (∀ x ∈ gs', x.2 ≤ w''.heap.size) ∧ wpM P md ops Q Z A fuel gs' (listed.setIfInBounds k true) a' w'') a w' := by
    intro fuel gs listed a w w' hlt hw hgs h
    have hsz := Below.size hw
    unfold Go.wpOp
    simp only [hok, hwant, if_true]
    refine .inl ?_
    simp only [Oper.wp, hrun, Oper.upon, hs2]
    refine ⟨Later.alloc _ _, (w'.heap.size, w'.heap.size + 1) :: gs, fun x hx => ?_, fun x hx => ?_, M_done hal hQ fuel gs _ a _ w'.heap.size (h.later (hw.trans (Later.alloc _ _))) (hset listed hlt) (Box.new _ _ _ rfl) (fun p hm => by have := hgs _ hm; omega)⟩
    · rcases List.mem_cons.1 hx with rfl | hx
      · exact .inr (Nat.le_refl _)
      · exact .inl hx
    · rcases List.mem_cons.1 hx with rfl | hx
      · simp
      · have := hgs x hx; simp; omega
  intro fuel
  induction fuel with
  | zero =>
    intro gs listed a w hlt hk hgs h w' hw
    refine ⟨fun hr => (by have := hready listed hlt hk; rw [hr] at this; cases this), fun i hi => ⟨fun hz => ?_, fun hz => (waits_spec (hzk i hz) hk hi).elim⟩⟩
    by_cases hik : i = k
    · subst hik; exact step 0 gs listed a w w' hlt hw hgs h
    · have := ready_mono hi hik
      rw [(h w' hw).1] at this; cases this
  | succ fuel ih =>
    intro gs listed a w hlt hk hgs h w' hw
    refine ⟨fun hr => (by have := hready listed hlt hk; rw [hr] at this; cases this), fun i hi => ⟨fun hz => ?_, fun hz => (waits_spec (hzk i hz) hk hi).elim⟩⟩
    by_cases hik : i = k
    · subst hik; exact step (fuel + 1) gs listed a w w' hlt hw hgs h
    · have hsz := Below.size hw
      refine wpOp_mono (fun a' w2 h3 => ?_) (((h w' hw).2 i (ready_mono hi hik)).1 hz)
      obtain ⟨hl, gs', c1, c2, hm⟩ := h3
      have hsz2 := Below.size hl
      refine ⟨hl, gs', c1, c2, ih gs' _ a' w2 (by simpa using hlt) (by rw [getD_set_ne false hik]; exact hk) c2 ?_⟩
      rw [Array.setIfInBounds_comm _ _ hik]; exact hm
/-- In state a, in every world from w on, the operation leaves v in its temporary and old memory as it was. -/
def Fixed (P : Program) (ops : Array Oper) (o : Oper) (v : Value) (a : Act) (w : World) : Prop :=
  (Region.wanted o (yielded ops a.tmps) = true ∧ ∀ W, Later w W → (execOp a.eval o).run P W = .ok (.value v) W ∨
    ∃ f args, (execOp a.eval o).run P W = .ok (.enter f args) W ∧ Calls P f args W fun e W' => e = .returned v ∧ Later W W') ∨
  (Region.wanted o (yielded ops a.tmps) = false ∧ v = undef)
theorem Fixed.later {o : Oper} {v : Value} {a : Act} {w w' : World} (h : Fixed P ops o v a w) (hw : Later w w') : Fixed P ops o v a w' :=
  h.imp (fun ⟨h1, h2⟩ => ⟨h1, fun W hW => h2 W (hw.trans hW)⟩) id
theorem Fixed.same {o : Oper} {v : Value} {a a' : Act} {w : World} (h : Fixed P ops o v a w) (he : execOp a'.eval o = execOp a.eval o)
    (hw : Region.wanted o (yielded ops a'.tmps) = Region.wanted o (yielded ops a.tmps)) : Fixed P ops o v a' w := by
  unfold Fixed at *
  rw [he, hw]
  exact h
theorem Fixed.step {i : Nat} {o : Oper} {v : Value} {a : Act} {w : World} (hi : ops[i]? = some o) (h : Fixed P ops o v a w) {K : Act → World → Prop}
    (hK : ∀ w', Later w w' → K (a.put o.dst v) w') : wpOp P ops Q i K a w := by
  unfold Go.wpOp
  simp only [hi]
  rcases h with ⟨hw, hv⟩ | ⟨hw, rfl⟩
  · simp only [hw, if_true]
    refine .inl ?_
    rcases hv w (Later.refl w) with hv | ⟨f, args, hv, hc⟩
    · simp only [Oper.wp, hv, Oper.upon]; exact hK w (Later.refl w)
    · simp only [Oper.wp, hv, Oper.upon]
      refine Calls.mono hc fun e w' he => ?_
      obtain ⟨rfl, hl⟩ := he
      exact hK w' hl
  · simp only [hw, Bool.false_eq_true, if_false]; exact hK w (Later.refl w)
theorem wpOp_putF {j : Nat} {oi oj : Oper} {v : Value} {w0 : World} (hj : ops[j]? = some oj) (hap : oi.apart ops oj = true)
    (hsi : ∀ cs b, oi.op ≠ .select cs b) (hsj : ∀ cs b, oj.op ≠ .select cs b)
    (hQ : ∀ c a w, Q (.panic c) (a.put oi.dst v) w → Q (.panic c) a w) {K : Act → World → Prop} {a : Act} {w : World}
    (hy : Fixed P ops oi v a w0) (h : wpOp P ops Q j K (a.put oi.dst v) w) :
    wpOp P ops Q j (fun a' w' => Fixed P ops oi v a' w0 ∧ K (a'.put oi.dst v) w') a w := by
  obtain ⟨h1, h2, h3⟩ := Oper.apart_spec hap
  have keep0 : ∀ b, Fixed P ops oi v b w0 → ∀ u, Fixed P ops oi v (b.put oj.dst u) w0 := fun b hb u => hb.same (execOp_put oi hsi b oj.dst u h3) (wanted_put oi b oj.dst u h3)
  have keep := keep0 a hy
  have swap : ∀ u W, K ((a.put oi.dst v).put oj.dst u) W → Fixed P ops oi v (a.put oj.dst u) w0 ∧ K ((a.put oj.dst u).put oi.dst v) W := fun u W hk =>
    ⟨keep u, by rw [← Act.put_comm a v u h2]; exact hk⟩
  unfold wpOp at *
  simp only [hj] at *
  rw [wanted_put oj a oi.dst v h1] at h
  cases hw : Region.wanted oj (yielded ops a.tmps) with
  | false =>
    simp only [hw, Bool.false_eq_true, if_false] at h ⊢
    exact swap _ _ h
  | true =>
    simp only [hw, if_true] at h ⊢
    have hex := execOp_put oj hsj a oi.dst v h1
    rcases h with h | ⟨hasks, hlets⟩
    · refine .inl ?_
      unfold Oper.wp at *
      rw [hex] at h
      generalize (execOp a.eval oj).run P w = r at *
      cases r with
      | halt x w' => cases x <;> simp only [Oper.upon] at h ⊢; exact hQ _ _ _ h
      | ok n w' =>
        cases n <;> simp only [Oper.upon] at h ⊢
        case value u => exact swap _ _ h
        case skip => exact swap _ _ h
        case defer df =>
          refine ⟨keep0 { a with defers := df :: a.defers } (hy.same rfl rfl) undef, ?_⟩
          rw [← Act.put_comm _ v undef h2, ← Act.put_defers]
          exact h
        case enter f args =>
          refine Calls.mono h fun e W he => ?_
          cases e with
          | returned u => exact swap _ _ he
          | panicked c => exact hQ _ _ _ he
          | outgrown => exact he
        case row row args => exact Rows.mono h fun u W he => swap _ _ he
    · exact .inr ⟨by unfold Oper.asks at *; rw [hex] at hasks; exact hasks, hlets⟩
/-- An operation of one fixed value may be taken first, where all of Z wait for it. -/
theorem M_first {i : Nat} {oi : Oper} {v : Value} (hi : ops[i]? = some oi) (hsel : ∀ (j : Nat) (o : Oper) cs b, ops[j]? = some o → o.op ≠ .select cs b)
    (hQ : ∀ c a w, Q (.panic c) (a.put oi.dst v) w → Q (.panic c) a w)
    (hz : i ∉ Z ∧ ∀ z ∈ Z, edgeB md ops z i = true) :
    ∀ (fuel : Nat) (gs : List (Nat × Nat)) (listed : Array Bool) (a : Act) (w : World), (∀ x ∈ gs, x.2 ≤ w.heap.size) →
      (∀ j oj, ops[j]? = some oj → j ≠ i → listed.getD j true = false → (∀ e ∈ oj.after, Region.binds md e = true → e.on ≠ i) → oi.apart ops oj = true) →
      i ∈ Region.ready md ops listed → Fixed P ops oi v a w →
      wpM P md ops Q Z A fuel gs (listed.setIfInBounds i true) (a.put oi.dst v) w → wpM P md ops Q Z A (fuel + 1) gs listed a w := by
  intro fuel
  have one : ∀ (fuel : Nat) (gs : List (Nat × Nat)) (listed : Array Bool) (a : Act) (w w' : World), (∀ x ∈ gs, x.2 ≤ w.heap.size) → Fixed P ops oi v a w → Later w w' →
      wpM P md ops Q Z A fuel gs (listed.setIfInBounds i true) (a.put oi.dst v) w →
      wpOp P ops Q i (fun a' w'' => Later w' w'' ∧ ∃ gs' : List (Nat × Nat), (∀ x ∈ gs', x ∈ gs ∨ w'.heap.size ≤ x.1) ∧ (∀ x ∈ gs', x.2 ≤ w''.heap.size) ∧ wpM P md ops Q Z A fuel gs' (listed.setIfInBounds i true) a' w'') a w' := by
    intro fuel gs listed a w w' hgs hy hw H
    refine (hy.later hw).step hi fun w2 h2 => ⟨h2, gs, fun x hx => .inl hx, fun x hx => ?_, H.later (hw.trans h2)⟩
    have h3 := hgs x hx; have h4 := Below.size (hw.trans h2); omega
  induction fuel with
  | zero =>
    intro gs listed a w hgs hfree hr hy H w' hw
    refine ⟨fun h0 => (by rw [h0] at hr; cases hr), fun j hj => ⟨fun hjz => ?_, fun hjz => (waits_spec (hz.2 j hjz) (getD_true (mem_ready.1 hr).1) hj).elim⟩⟩
    by_cases hji : j = i
    · subst hji; exact one 0 gs listed a w w' hgs hy hw H
    · have h1 := ready_mono hj hji
      rw [(H w' hw).1] at h1
      cases h1
  | succ fuel ih =>
    intro gs listed a w hgs hfree hr hy H w' hw
    refine ⟨fun h0 => (by rw [h0] at hr; cases hr), fun j hj => ⟨fun hjz => ?_, fun hjz => (waits_spec (hz.2 j hjz) (getD_true (mem_ready.1 hr).1) hj).elim⟩⟩
    by_cases hji : j = i
    · subst hji; exact one (fuel + 1) gs listed a w w' hgs hy hw H
    · have h1 := ((H w' hw).2 j (ready_mono hj hji)).1 hjz
      obtain ⟨hjun, oj, hoj, hall⟩ := mem_ready.1 hj
      have hnot : ∀ e ∈ oj.after, Region.binds md e = true → e.on ≠ i := fun e he hb heq => by
        have h2 := hall e he hb
        rw [heq, getD_true (mem_ready.1 hr).1] at h2; cases h2
      have h2 := wpOp_putF hoj (hfree j oj hoj hji hjun hnot) (fun cs b => hsel i oi cs b hi) (fun cs b => hsel j oj cs b hoj) hQ (hy.later hw) h1
      refine wpOp_mono (fun a' w2 h3 => ?_) h2
      obtain ⟨hf, hl, gs', c1, c2, hm⟩ := h3
      refine ⟨hl, gs', c1, c2, ih gs' (listed.setIfInBounds j true) a' w2 c2 ?_ (ready_mono hr (Ne.symm hji)) (hf.later hl) ?_⟩
      · intro k ok hk hki hun hno
        refine hfree k ok hk hki ?_ hno
        by_cases hjk : j = k
        · subst hjk; exact hjun
        · rwa [getD_set_ne true hjk] at hun
      · rw [Array.setIfInBounds_comm _ _ hji]
        exact hm
/-- An operation that looks at no world may be taken first. -/
theorem M_firstY {i : Nat} {oi : Oper} {v : Value} (hi : ops[i]? = some oi) (hsel : ∀ (j : Nat) (o : Oper) cs b, ops[j]? = some o → o.op ≠ .select cs b)
    (hQ : ∀ c a w, Q (.panic c) (a.put oi.dst v) w → Q (.panic c) a w) (hiz : i ∉ Z) (hdst : ∀ e ∈ A, oi.dst ≠ some e.2.1) (hlook : ∀ e ∈ A, e.2.1 ∉ oi.looksAt ops) :
    ∀ (fuel : Nat) (gs : List (Nat × Nat)) (listed : Array Bool) (a : Act) (w : World), (∀ x ∈ gs, x.2 ≤ w.heap.size) →
      (∀ j oj, ops[j]? = some oj → j ≠ i → listed.getD j true = false → (∀ e ∈ oj.after, Region.binds md e = true → e.on ≠ i) → oi.apart ops oj = true) →
      i ∈ Region.ready md ops listed → Yields P ops oi v a →
      wpM P md ops Q Z A fuel gs (listed.setIfInBounds i true) (a.put oi.dst v) w → wpM P md ops Q Z A (fuel + 1) gs listed a w := by
  intro fuel
  have one : ∀ (fuel : Nat) (gs : List (Nat × Nat)) (listed : Array Bool) (a : Act) (w w' : World), (∀ x ∈ gs, x.2 ≤ w.heap.size) → Yields P ops oi v a → Later w w' →
      wpM P md ops Q Z A fuel gs (listed.setIfInBounds i true) (a.put oi.dst v) w →
      wpOp P ops Q i (fun a' w'' => Later w' w'' ∧ ∃ gs' : List (Nat × Nat), (∀ x ∈ gs', x ∈ gs ∨ w'.heap.size ≤ x.1) ∧ (∀ x ∈ gs', x.2 ≤ w''.heap.size) ∧ wpM P md ops Q Z A fuel gs' (listed.setIfInBounds i true) a' w'') a w' := by
    intro fuel gs listed a w w' hgs hy hw H
    refine hy.wpOp hi ⟨Later.refl _, gs, fun x hx => .inl hx, fun x hx => ?_, H.later hw⟩
    have h3 := hgs x hx; have h4 := Below.size hw; omega
  -- the same value behind the boxes' making
  have more : ∀ (A' : List AE) (gs : List (Nat × Nat)) (j : Nat) (oj : Oper) (fuel : Nat) (listed : Array Bool) (a : Act) (w : World), (∀ e ∈ A', oi.dst ≠ some e.2.1) → (∀ e ∈ A', e.2.1 ∉ oi.looksAt ops) → Yields P ops oi v a →
      ops[j]? = some oj → oi.apart ops oj = true → (∀ a w, Yields P ops oi v a → wpAny P md ops Q fuel ((listed.setIfInBounds i true).setIfInBounds j true) (a.put oi.dst v) w → wpAny P md ops Q (fuel + 1) (listed.setIfInBounds j true) a w) →
      Zc (fun a w => wpOp P ops Q j (wpAny P md ops Q fuel ((listed.setIfInBounds i true).setIfInBounds j true)) a w) A' gs (a.put oi.dst v) w →
      Zc (fun a w => wpOp P ops Q j (wpAny P md ops Q (fuel + 1) (listed.setIfInBounds j true)) a w) A' gs a w := by
    intro A'
    induction A' with
    | nil =>
      intro gs j oj fuel listed a w _ _ hy hoj hap hn h
      refine wpOp_mono (fun a' w2 h3 => hn a' w2 h3.1 h3.2) (wpOp_put hoj hap (fun cs b => hsel i oi cs b hi) (fun cs b => hsel j oj cs b hoj) hQ hy h)
    | cons e A' ihA =>
      intro gs j oj fuel listed a w hd hl hy hoj hap hn h g h1 h2
      have := h g h1 h2
      rw [Act.put_comm a v (ptr g) (fun d hd' he => hd e (by simp) (by rw [hd']; exact he.symm))] at this
      exact ihA _ j oj fuel listed _ w (fun e' he => hd e' (by simp [he])) (fun e' he => hl e' (by simp [he])) (hy.of_same (execOp_put oi (fun cs b => hsel i oi cs b hi) a _ _ (fun d hd' => by cases hd'; exact hl e (by simp))) (wanted_put oi a _ _ (fun d hd' => by cases hd'; exact hl e (by simp)))) hoj hap hn this
  induction fuel with
  | zero =>
    intro gs listed a w hgs hfree hr hy H w' hw
    refine ⟨fun h0 => (by rw [h0] at hr; cases hr), fun j hj => ?_⟩
    by_cases hji : j = i
    · subst hji; exact ⟨fun _ => one 0 gs listed a w w' hgs hy hw H, fun h => absurd h hiz⟩
    · have h1 := ready_mono hj hji
      rw [(H w' hw).1] at h1
      cases h1
  | succ fuel ih =>
    intro gs listed a w hgs hfree hr hy H w' hw
    refine ⟨fun h0 => (by rw [h0] at hr; cases hr), fun j hj => ?_⟩
    by_cases hji : j = i
    · subst hji; exact ⟨fun _ => one (fuel + 1) gs listed a w w' hgs hy hw H, fun h => absurd h hiz⟩
    · have h1 := (H w' hw).2 j (ready_mono hj hji)
      obtain ⟨hjun, oj, hoj, hall⟩ := mem_ready.1 hj
      have hnot : ∀ e ∈ oj.after, Region.binds md e = true → e.on ≠ i := fun e he hb heq => by
        have h2 := hall e he hb
        rw [heq, getD_true (mem_ready.1 hr).1] at h2; cases h2
      have hap := hfree j oj hoj hji hjun hnot
      have hfree' : ∀ k ok, ops[k]? = some ok → k ≠ i → (listed.setIfInBounds j true).getD k true = false →
          (∀ e ∈ ok.after, Region.binds md e = true → e.on ≠ i) → oi.apart ops ok = true := fun k ok hk hki hun hno => by
        refine hfree k ok hk hki ?_ hno
        by_cases hjk : j = k
        · subst hjk; exact hjun
        · rwa [getD_set_ne true hjk] at hun
      refine ⟨fun hjz => ?_, fun hjz => ?_⟩
      · have h2 := wpOp_put hoj hap (fun cs b => hsel i oi cs b hi) (fun cs b => hsel j oj cs b hoj) hQ hy (h1.1 hjz)
        refine wpOp_mono (fun a' w2 h3 => ?_) h2
        obtain ⟨hf, hl, gs', c1, c2, hm⟩ := h3
        refine ⟨hl, gs', c1, c2, ih gs' (listed.setIfInBounds j true) a' w2 c2 hfree' (ready_mono hr (Ne.symm hji)) hf ?_⟩
        rw [Array.setIfInBounds_comm _ _ hji]
        exact hm
      · refine more A gs j oj fuel listed a w' hdst hlook hy hoj hap (fun a' w2 hy' h3 => ?_) (h1.2 hjz)
        rw [Array.setIfInBounds_comm _ _ (Ne.symm hji)] at h3
        exact wpAny_first hi hsel hQ fuel (listed.setIfInBounds j true) a' w2 hfree' (ready_mono hr (Ne.symm hji)) hy' h3
/-! The steps of a walk. -/
variable {fuel : Nat} {listed : Array Bool} {a : Act} {w : World} {i z : Nat} {oi : Oper} {v : Value} {gs : List (Nat × Nat)}
theorem Zc.cons {F : Act → World → Prop} {e : AE} (h : ∀ g, Box w g e.2.2.1 e.2.2.2 → (∀ p ∈ gs, g < p.1 ∨ p.2 ≤ g) → Zc F A ((g, g + 1) :: gs) (a.put (some e.2.1) (ptr g)) w) : Zc F (e :: A) gs a w := h
theorem Zc.nil {F : Act → World → Prop} (h : F a w) : Zc F [] gs a w := h
theorem wp_region_M (Z : List Nat) (B n : Nat) {S : World → Prop} {id : Nat} (hm : P.follows .mixedOrders = true) (hn : ops.size = n) (hS : ∀ W, Later w.drew W → S W) (hB : B ≤ w.heap.size)
    (h : (∀ W, Later w.drew W → S W) → (∀ x ∈ [(0, B)], x.2 ≤ w.drew.heap.size) → wpM P .any ops Q Z [] n [(0, B)] (Array.replicate n false) a w.drew) : (Code.region id ops true).wp P Q a w := by
  subst hn
  exact wp_region_any hm (wpAny_of_M _ _ _ _ _ (h hS (fun x hx => by simp at hx; subst hx; exact hB)))
theorem pendM {ok : Oper} (k : Nat) (d : Tmp) (cs : Array Value) (t : TypeId) (hok : ops[k]? = some ok) (hc : (aloneB md ops Z k d && decide (k < listed.size) && !listed.getD k false) = true)
    (hQ : ∀ c (g : Nat) a w, Q (.panic c) a w → Q (.panic c) (a.put (some d) (ptr g)) w)
    (hrun : ∀ (a : Act) (w : World), (execOp a.eval ok).run P w = .ok (.value (ptr w.heap.size)) (w.alloc (.cells cs t))) (hG : ∀ x ∈ gs, x.2 ≤ w.heap.size)
    (h : wpM P md ops Q Z ((k, d, cs, t) :: A) fuel gs (listed.setIfInBounds k true) a w) : wpM P md ops Q Z A (fuel + 1) gs listed a w := by
  simp only [Bool.and_eq_true, decide_eq_true_eq, Bool.not_eq_true'] at hc
  exact M_pend hc.1.1 hok hQ hrun fuel gs listed a w hc.1.2 hc.2 hG h
def mayB (md : Region.Mode) (ops : Array Oper) (Z : List Nat) (listed : Array Bool) (i : Nat) : Bool :=
  Region.noSelect ops && Region.free md ops listed i && (Region.ready md ops listed).contains i && !Z.contains i && Z.all fun z => edgeB md ops z i
theorem may_spec (h : mayB md ops Z listed i = true) :
    Region.noSelect ops = true ∧ Region.free md ops listed i = true ∧ (Region.ready md ops listed).contains i = true ∧ i ∉ Z ∧ ∀ z ∈ Z, edgeB md ops z i = true := by
  simp only [mayB, Bool.and_eq_true, List.all_eq_true, Bool.not_eq_true'] at h
  exact ⟨h.1.1.1.1, h.1.1.1.2, h.1.1.2, fun hz => by simp [hz] at h, h.2⟩
theorem takeM (hG : ∀ x ∈ gs, x.2 ≤ w.heap.size) (hi : ops[i]? = some oi) (hm : mayB md ops Z listed i = true)
    (hQ : ∀ c a w, Q (.panic c) (a.put oi.dst v) w → Q (.panic c) a w) (hw : Region.wanted oi (yielded ops a.tmps) = true)
    (hv : ∀ W, Later w W → (execOp a.eval oi).run P W = .ok (.value v) W)
    (h : wpM P md ops Q Z A fuel gs (listed.setIfInBounds i true) (a.put oi.dst v) w) : wpM P md ops Q Z A (fuel + 1) gs listed a w := by
  obtain ⟨hs, hf, hr, hz⟩ := may_spec hm
  exact M_first hi (Region.noSelect_spec hs) hQ hz fuel gs listed a w hG (Region.free_spec hi hf) (by simpa using hr) (.inl ⟨hw, fun W hW => .inl (hv W hW)⟩) h
theorem passM (hG : ∀ x ∈ gs, x.2 ≤ w.heap.size) (hi : ops[i]? = some oi) (hm : mayB md ops Z listed i = true)
    (hQ : ∀ c a w, Q (.panic c) (a.put oi.dst undef) w → Q (.panic c) a w) (hw : Region.wanted oi (yielded ops a.tmps) = false)
    (h : wpM P md ops Q Z A fuel gs (listed.setIfInBounds i true) (a.put oi.dst undef) w) : wpM P md ops Q Z A (fuel + 1) gs listed a w := by
  obtain ⟨hs, hf, hr, hz⟩ := may_spec hm
  exact M_first hi (Region.noSelect_spec hs) hQ hz fuel gs listed a w hG (Region.free_spec hi hf) (by simpa using hr) (.inr ⟨hw, rfl⟩) h
def mayYB (md : Region.Mode) (ops : Array Oper) (Z : List Nat) (A : List AE) (listed : Array Bool) (i : Nat) : Bool :=
  Region.noSelect ops && Region.free md ops listed i && (Region.ready md ops listed).contains i && !Z.contains i && A.all fun e => ((ops[i]?).map fun o => o.dst != some e.2.1 && !(o.looksAt ops).contains e.2.1).getD false
theorem takeMY (hG : ∀ x ∈ gs, x.2 ≤ w.heap.size) (hi : ops[i]? = some oi) (hm : mayYB md ops Z A listed i = true)
    (hQ : ∀ c a w, Q (.panic c) (a.put oi.dst v) w → Q (.panic c) a w) (hw : Region.wanted oi (yielded ops a.tmps) = true)
    (hv : ∀ W, (execOp a.eval oi).run P W = .ok (.value v) W)
    (h : wpM P md ops Q Z A fuel gs (listed.setIfInBounds i true) (a.put oi.dst v) w) : wpM P md ops Q Z A (fuel + 1) gs listed a w := by
  simp only [mayYB, Bool.and_eq_true, List.all_eq_true, Bool.not_eq_true', hi, Option.map_some, Option.getD_some, bne_iff_ne] at hm
  obtain ⟨⟨⟨⟨hs, hf⟩, hr⟩, hz⟩, hA⟩ := hm
  refine M_firstY hi (Region.noSelect_spec hs) hQ (fun h => by simp [h] at hz) (fun e he => (hA e he).1) (fun e he h => ?_) fuel gs listed a w hG (Region.free_spec hi hf) (by simpa using hr) (.inl ⟨hw, hv⟩) h
  have h2 := (hA e he).2
  rw [← Bool.not_eq_true, List.contains_iff_mem] at h2
  exact h2 h
theorem callM {f : FuncId} {args : Array Value} (hG : ∀ x ∈ gs, x.2 ≤ w.heap.size) (hi : ops[i]? = some oi) (hr : Region.ready md ops listed = [i]) (hz : Z.contains i = false) (hw : Region.wanted oi (yielded ops a.tmps) = true)
    (hv : ∀ W, Later w W → (execOp a.eval oi).run P W = .ok (.enter f args) W)
    (h : ∀ w', Later w w' → Calls P f args w' fun e w2 => ∃ v, e = .returned v ∧ Later w' w2 ∧ ((∀ x ∈ (w'.heap.size, w2.heap.size) :: gs, x.2 ≤ w2.heap.size) → wpM P md ops Q Z A fuel ((w'.heap.size, w2.heap.size) :: gs) (listed.setIfInBounds i true) (a.put oi.dst v) w2)) :
    wpM P md ops Q Z A (fuel + 1) gs listed a w := by
  intro w' hl
  rw [hr]
  refine ⟨fun h0 => (by cases h0), fun j hj => ?_⟩
  obtain rfl : j = i := by simpa using hj
  have hz' : j ∉ Z := fun h => by rw [← Bool.not_eq_true, List.contains_iff_mem] at hz; exact hz h
  refine ⟨fun _ => ?_, fun h => absurd h hz'⟩
  unfold Go.wpOp
  simp only [hi, hw, if_true]
  refine .inl ?_
  simp only [Oper.wp, hv w' hl, Oper.upon]
  refine Calls.mono (h w' hl) fun e w2 he => ?_
  obtain ⟨v, rfl, h3, h4⟩ := he
  have hG2 : ∀ x ∈ (w'.heap.size, w2.heap.size) :: gs, x.2 ≤ w2.heap.size := fun x hx => by
    rcases List.mem_cons.1 hx with rfl | hx
    · exact Nat.le_refl _
    · have h5 := hG x hx; have h6 := Below.size hl; have h7 := Below.size h3; omega
  refine ⟨h3, (w'.heap.size, w2.heap.size) :: gs, fun x hx => ?_, hG2, h4 hG2⟩
  rcases List.mem_cons.1 hx with rfl | hx
  · exact .inr (Nat.le_refl _)
  · exact .inl hx
theorem storeM {oz : Oper} (hi : ops[z]? = some oz) (hr : Region.ready md ops listed = [z]) (hz : Z.contains z = true) (hg : oz.guard = none)
    (h : ∀ w', Later w w' → Zc (fun a w => ∃ w2, (execOp a.eval oz).run P w = .ok .skip w2 ∧ wpAny P md ops Q fuel (listed.setIfInBounds z true) (a.put oz.dst undef) w2) A gs a w') :
    wpM P md ops Q Z A (fuel + 1) gs listed a w := by
  intro w' hl
  rw [hr]
  refine ⟨fun h0 => (by cases h0), fun j hj => ?_⟩
  obtain rfl : j = z := by simpa using hj
  have hz' : j ∈ Z := by rwa [List.contains_iff_mem] at hz
  refine ⟨fun h => absurd hz' h, fun _ => Zc.mono (fun a ha => ?_) (h w' hl)⟩
  obtain ⟨w2, h1, h2⟩ := ha
  unfold Go.wpOp
  have hw : Region.wanted oz (yielded ops a.tmps) = true := by unfold Region.wanted; rw [hg]
  simp only [hi, hw, if_true]
  exact .inl (by simp only [Oper.wp, h1, Oper.upon]; exact h2)
theorem doneM (hr : Region.ready md ops listed = []) (h : ∀ w', Later w w' → Zc (Q .normal) A gs a w') : ∀ fuel, wpM P md ops Q Z A fuel gs listed a w
  | 0 => fun w' hw => ⟨hr, h w' hw⟩
  | _ + 1 => fun w' hw => ⟨fun _ => h w' hw, by rw [hr]; simp⟩
theorem onlyAny {v : Value} {w2 : World} (hi : ops[i]? = some oi) (hr : Region.ready md ops listed = [i]) (hw : Region.wanted oi (yielded ops a.tmps) = true)
    (h1 : (execOp a.eval oi).run P w = .ok (.value v) w2) (h : wpAny P md ops Q fuel (listed.setIfInBounds i true) (a.put oi.dst v) w2) : wpAny P md ops Q (fuel + 1) listed a w := by
  refine wpAny_all (rs := [i]) hr (by simp) fun j hj => ?_
  obtain rfl : j = i := by simpa using hj
  unfold Go.wpOp
  simp only [hi, hw, if_true]
  exact .inl (by simp only [Oper.wp, h1, Oper.upon]; exact h)
theorem skipAny {w2 : World} (hi : ops[i]? = some oi) (hr : Region.ready md ops listed = [i]) (hw : Region.wanted oi (yielded ops a.tmps) = true)
    (h1 : (execOp a.eval oi).run P w = .ok .skip w2) (h : wpAny P md ops Q fuel (listed.setIfInBounds i true) (a.put oi.dst undef) w2) : wpAny P md ops Q (fuel + 1) listed a w := by
  refine wpAny_all (rs := [i]) hr (by simp) fun j hj => ?_
  obtain rfl : j = i := by simpa using hj
  unfold Go.wpOp
  simp only [hi, hw, if_true]
  exact .inl (by simp only [Oper.wp, h1, Oper.upon]; exact h)
end
end Go.Proofs.Ytodnahpegecpiaa

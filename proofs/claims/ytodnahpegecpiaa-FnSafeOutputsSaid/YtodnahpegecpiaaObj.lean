/- Owned objects: what a struct's slices hold, all slices of a value told by one fact. -/
import Derived.Test.YtodnahpegecpiaaChg
namespace Go.Proofs.Ytodnahpegecpiaa
set_option linter.unusedSimpArgs false
set_option linter.unusedVariables false
open Go.RowKit
/-- What a slice holds: numbers, gates (three numbers each), or slices of numbers (their values). -/
inductive Dat where
  | ints (l : List Int)
  | gates (l : List (Int × Int × Int))
  | rows (us : List Value)
def gateT : TypeId := 74
def gcells (l : List (Int × Int × Int)) : List Value := l.flatMap fun g => [.int .i64 g.1, .int .i64 g.2.1, .int .i64 g.2.2]
def Dat.len : Dat → Nat
  | .ints l => l.length
  | .gates l => l.length
  | .rows us => us.length
def Dat.width : Dat → Nat
  | .ints _ => 1
  | .gates _ => 3
  | .rows _ => 1
def Dat.typ : Dat → TypeId
  | .ints _ => 3
  | .gates _ => gateT
  | .rows _ => 25
def Dat.cells : Dat → List Value
  | .ints l => l.map (Value.int .i64)
  | .gates l => gcells l
  | .rows us => us
/-- The gates at address A. -/
def Gates (w : World) (A : Option Addr) (n : Nat) (l : List (Int × Int × Int)) : Prop :=
  l.length = n ∧ (0 < n → ∃ g o, A = some ⟨g, o, none⟩ ∧ ∀ j, j < n → ∃ k a b, l[j]? = some (k, a, b) ∧ w.cell? ⟨g, o + 3 * j, none⟩ = some (.int .i64 k) ∧ w.cell? ⟨g, o + 3 * j + 1, none⟩ = some (.int .i64 a) ∧ w.cell? ⟨g, o + 3 * j + 2, none⟩ = some (.int .i64 b))
theorem Gates.keep {w w' : World} {A : Option Addr} {n : Nat} {l : List (Int × Int × Int)} (h : Gates w A n l) (hk : ∀ p : Addr, p.block < w.heap.size → w'.cell? p = w.cell? p) : Gates w' A n l := by
  refine ⟨h.1, fun hn => ?_⟩
  obtain ⟨g, o, e, hc⟩ := h.2 hn
  have hlt : g < w.heap.size := by obtain ⟨k, a, b, _, h0, _⟩ := hc 0 hn; exact World.block_lt_of_cell? w _ h0
  refine ⟨g, o, e, fun j hj => ?_⟩
  obtain ⟨k, a, b, h1, h2, h3, h4⟩ := hc j hj
  exact ⟨k, a, b, h1, (hk _ hlt).trans h2, (hk _ hlt).trans h3, (hk _ hlt).trans h4⟩
theorem Gates.below {w w' : World} {A : Option Addr} {n : Nat} {l : List (Int × Int × Int)} (h : Gates w A n l) (hb : Below w.heap.size w w') : Gates w' A n l := h.keep fun _ hp => hb.cell hp
def RdG (w : World) (v : Value) (l : List (Int × Int × Int)) : Prop := ∃ A n c, v = .slice A n c ∧ Gates w A n l
/-- The values at address A. -/
def Vals (w : World) (A : Option Addr) (n : Nat) (us : List Value) : Prop :=
  us.length = n ∧ (0 < n → ∃ g o, A = some ⟨g, o, none⟩ ∧ ∀ j, j < n → ∃ u, us[j]? = some u ∧ w.cell? ⟨g, o + j, none⟩ = some u)
theorem Vals.keep {w w' : World} {A : Option Addr} {n : Nat} {us : List Value} (h : Vals w A n us) (hk : ∀ p : Addr, p.block < w.heap.size → w'.cell? p = w.cell? p) : Vals w' A n us := by
  refine ⟨h.1, fun hn => ?_⟩
  obtain ⟨g, o, e, hc⟩ := h.2 hn
  have hlt : g < w.heap.size := by obtain ⟨u, _, h0⟩ := hc 0 hn; exact World.block_lt_of_cell? w _ h0
  refine ⟨g, o, e, fun j hj => ?_⟩
  obtain ⟨u, h1, h2⟩ := hc j hj
  exact ⟨u, h1, (hk _ hlt).trans h2⟩
theorem Vals.below {w w' : World} {A : Option Addr} {n : Nat} {us : List Value} (h : Vals w A n us) (hb : Below w.heap.size w w') : Vals w' A n us := h.keep fun _ hp => hb.cell hp
def RdV (w : World) (v : Value) (us : List Value) : Prop := ∃ A n c, v = .slice A n c ∧ Vals w A n us
/-- A slice reads as d. -/
def RdD (w : World) (v : Value) : Dat → Prop
  | .ints l => Rd w v l
  | .gates l => RdG w v l
  | .rows us => RdV w v us
theorem RdD.below {w w' : World} {v : Value} {d : Dat} (h : RdD w v d) (hb : Below w.heap.size w w') : RdD w' v d := by
  cases d with
  | ints l => exact Rd.below h hb
  | gates l => obtain ⟨A, n, c, e, hG⟩ := h; exact ⟨A, n, c, e, hG.below hb⟩
  | rows us => obtain ⟨A, n, c, e, hG⟩ := h; exact ⟨A, n, c, e, hG.below hb⟩
/-- A slice of the call's own holds d. -/
def OwnD (w : World) (base : Nat) (v : Value) (d : Dat) : Prop := w.ownsRow base d.typ d.width v d.len d.cells
theorem gcells_len (l : List (Int × Int × Int)) : (gcells l).length = l.length * 3 := by
  induction l with
  | nil => rfl
  | cons x l ih => simp [gcells] at ih ⊢; omega
theorem gcells_get {l : List (Int × Int × Int)} {j : Nat} (h : j < l.length) : (gcells l)[3 * j]? = some (.int .i64 l[j].1) ∧ (gcells l)[3 * j + 1]? = some (.int .i64 l[j].2.1) ∧ (gcells l)[3 * j + 2]? = some (.int .i64 l[j].2.2) := by
  induction l generalizing j with
  | nil => simp at h
  | cons x l ih =>
    cases j with
    | zero => simp [gcells]
    | succ j =>
      have hj : j < l.length := by simpa using h
      obtain ⟨h1, h2, h3⟩ := ih hj
      have e : gcells (x :: l) = [.int .i64 x.1, .int .i64 x.2.1, .int .i64 x.2.2] ++ gcells l := by simp [gcells]
      rw [e]
      refine ⟨?_, ?_, ?_⟩
      · rw [List.getElem?_append_right (by simp; omega)]; simpa [show 3 * (j + 1) - 3 = 3 * j by omega] using h1
      · rw [List.getElem?_append_right (by simp; omega)]; simpa [show 3 * (j + 1) + 1 - 3 = 3 * j + 1 by omega] using h2
      · rw [List.getElem?_append_right (by simp; omega)]; simpa [show 3 * (j + 1) + 2 - 3 = 3 * j + 2 by omega] using h3
section
variable {w w' : World} {base lo hi lo2 hi2 B : Nat} {v : Value} {d d' : Dat}
theorem OwnD.lt (h : OwnD w base v d) : ∀ k, v.ownBlock = some k → base ≤ k ∧ k < w.heap.size := World.ownsRow.lt h
theorem OwnD.keepBlock (h : OwnD w base v d) (hb : ∀ k, v.ownBlock = some k → w'.heap[k]? = w.heap[k]?) : OwnD w' base v d := by
  refine ⟨h.1, ?_⟩
  rcases h.2 with hn | ⟨g, cap, cur, rfl, hb', hg, rest⟩
  · exact .inl hn
  · exact .inr ⟨g, cap, cur, rfl, hb', (hb g rfl).trans hg, rest⟩
theorem OwnD.mono (h : OwnD w base v d) (hb : B ≤ base) : OwnD w B v d := Joins.ownsRow_le h hb
theorem OwnD.rd (h : OwnD w base v d) : RdD w v d := by
  cases d with
  | ints l => obtain ⟨A, c, e, hI⟩ := Own.reads (l := l) h; exact ⟨A, _, c, e, hI⟩
  | gates l =>
    rcases h.2 with ⟨rfl, hn⟩ | ⟨g, cap, cur, rfl, _, hh, _, _, _, htake⟩
    · exact ⟨none, 0, 0, rfl, hn, fun h0 => absurd h0 (by omega)⟩
    · refine ⟨_, _, cap, rfl, rfl, fun _ => ⟨g, 0, rfl, fun j hj => ?_⟩⟩
      have hj' : j < l.length := hj
      obtain ⟨h1, h2, h3⟩ := gcells_get hj'
      have hc := World.ownsRow.cells (g := g) h rfl
      refine ⟨l[j].1, l[j].2.1, l[j].2.2, by simp [hj'], ?_, ?_, ?_⟩
      · simpa [Addr.add_lit] using hc _ _ h1
      · simpa [Addr.add_lit, Nat.add_assoc] using hc _ _ h2
      · simpa [Addr.add_lit, Nat.add_assoc] using hc _ _ h3
  | rows us =>
    rcases h.2 with ⟨rfl, hn⟩ | ⟨g, cap, cur, rfl, _, hh, _, _, _, htake⟩
    · exact ⟨none, 0, 0, rfl, hn, fun h0 => absurd h0 (by omega)⟩
    · refine ⟨_, _, cap, rfl, rfl, fun _ => ⟨g, 0, rfl, fun j hj => ?_⟩⟩
      have hj' : j < us.length := hj
      have hc := World.ownsRow.cells (g := g) h rfl
      refine ⟨us[j], by simp [hj'], ?_⟩
      simpa [Addr.add_lit] using hc j us[j] (by simp [Dat.cells, hj'])
theorem OwnD.setBox {g i : Nat} {u : Value} (h : OwnD w base v d) (hg : g < base) : OwnD (w.setCell ⟨g, i, none⟩ u) base v d := h.keepBlock fun k hk => Below.heap_setCell _ _ _ _ (fun e => by simp at e; have := (h.lt k hk).1; omega)
theorem OwnD.alloc (h : OwnD w base v d) (o : Obj) : OwnD (w.alloc o) base v d := h.keepBlock fun k hk => Below.heap_alloc w o k (h.lt k hk).2
theorem OwnD.below (h : OwnD w base v d) (hb : Below w.heap.size w w') : OwnD w' base v d := h.keepBlock fun k hk => hb.block k (h.lt k hk).2
/-- Two slices share no block of their own. -/
def Apart (v u : Value) : Prop := ∀ k, v.ownBlock = some k → u.ownBlock ≠ some k
theorem Apart.symm {v u : Value} (h : Apart v u) : Apart u v := fun k hk hv => h k hv hk
/-- Slices of the call's own, apart from each other, all in blocks from lo on and below hi. -/
def OwnL (w : World) (lo hi : Nat) (ls : List (Value × Dat)) : Prop :=
  lo ≤ hi ∧ hi ≤ w.heap.size ∧ (∀ p ∈ ls, OwnD w lo p.1 p.2 ∧ ∀ k, p.1.ownBlock = some k → k < hi) ∧ ls.Pairwise fun p q => Apart p.1 q.1
/-- Slices read so. -/
def RdL (w : World) (ls : List (Value × Dat)) : Prop := ∀ p ∈ ls, RdD w p.1 p.2
variable {ls ls2 pre post : List (Value × Dat)}
theorem OwnL.rd (h : OwnL w lo hi ls) : RdL w ls := fun p hp => (h.2.2.1 p hp).1.rd
theorem OwnL.keepBlock (h : OwnL w lo hi ls) (hs : w.heap.size ≤ w'.heap.size) (hb : ∀ k, lo ≤ k → k < hi → w'.heap[k]? = w.heap[k]?) : OwnL w' lo hi ls :=
  ⟨h.1, Nat.le_trans h.2.1 hs, fun p hp => ⟨(h.2.2.1 p hp).1.keepBlock fun k hk => hb k ((h.2.2.1 p hp).1.lt k hk).1 ((h.2.2.1 p hp).2 k hk), (h.2.2.1 p hp).2⟩, h.2.2.2⟩
theorem OwnL.below (h : OwnL w lo hi ls) (hb : Below w.heap.size w w') : OwnL w' lo hi ls :=
  h.keepBlock hb.size fun k _ hk => hb.block k (Nat.lt_of_lt_of_le hk h.2.1)
theorem OwnL.away (h : OwnL w lo2 hi2 ls) (hc : Chg lo hi w w') (hd : hi ≤ lo2 ∨ hi2 ≤ lo) : OwnL w' lo2 hi2 ls :=
  h.keepBlock hc.size fun k h1 h2 => hc.block k (Nat.lt_of_lt_of_le h2 h.2.1) (by omega)
theorem OwnL.mono (h : OwnL w lo hi ls) (h1 : lo2 ≤ lo) (h2 : hi ≤ hi2) (h3 : hi2 ≤ w.heap.size) : OwnL w lo2 hi2 ls :=
  ⟨by have := h.1; omega, h3, fun p hp => ⟨(h.2.2.1 p hp).1.mono h1, fun k hk => Nat.lt_of_lt_of_le ((h.2.2.1 p hp).2 k hk) h2⟩, h.2.2.2⟩
theorem OwnL.nil (w : World) : OwnL w w.heap.size w.heap.size [] := ⟨Nat.le_refl _, Nat.le_refl _, by simp, List.Pairwise.nil⟩
theorem OwnL.append {m : Nat} (h : OwnL w lo m ls) (k : OwnL w m hi ls2) : OwnL w lo hi (ls ++ ls2) := by
  refine ⟨Nat.le_trans h.1 k.1, k.2.1, fun p hp => ?_, List.pairwise_append.2 ⟨h.2.2.2, k.2.2.2, fun p hp q hq b hb hb2 => ?_⟩⟩
  · rcases List.mem_append.1 hp with hp | hp
    · exact ⟨(h.2.2.1 p hp).1, fun b hb => Nat.lt_of_lt_of_le ((h.2.2.1 p hp).2 b hb) k.1⟩
    · exact ⟨(k.2.2.1 p hp).1.mono h.1, (k.2.2.1 p hp).2⟩
  · have h1 := (h.2.2.1 p hp).2 b hb
    have h2 := ((k.2.2.1 q hq).1.lt b hb2).1
    omega
theorem OwnL.one (h : OwnD w lo v d) (hs : lo ≤ w.heap.size) : OwnL w lo w.heap.size [(v, d)] :=
  ⟨hs, Nat.le_refl _, fun p hp => by simp at hp; subst hp; exact ⟨h, fun k hk => (h.lt k hk).2⟩, List.pairwise_singleton _ _⟩
theorem OwnL.get {p : Value × Dat} (h : OwnL w lo hi ls) (hp : p ∈ ls) : OwnD w lo p.1 p.2 := (h.2.2.1 p hp).1
/-- One of the slices was written. -/
theorem OwnL.set (h : OwnL w lo hi (pre ++ (v, d) :: post)) (h1 : OwnD w' lo v d') (hg : w.grownBy w' v.ownBlock) : OwnL w' lo hi (pre ++ (v, d') :: post) := by
  have hp := List.pairwise_append.1 h.2.2.2
  have hc := List.pairwise_cons.1 hp.2.1
  have hd : ∀ p, p ∈ pre ∨ p ∈ post → Apart p.1 v := by
    intro p hp'
    rcases hp' with hp' | hp'
    · exact hp.2.2 p hp' (v, d) (by simp)
    · exact (hc.1 p hp').symm
  refine ⟨h.1, Nat.le_trans h.2.1 hg.size, fun p hpm => ?_, List.pairwise_append.2 ⟨hp.1, List.pairwise_cons.2 ⟨hc.1, hc.2⟩, fun p hp' q hq => ?_⟩⟩
  · have key : p ∈ pre ∨ p ∈ post → OwnD w' lo p.1 p.2 ∧ ∀ k, p.1.ownBlock = some k → k < hi := by
      intro hpp
      have hm : p ∈ pre ++ (v, d) :: post := by rcases hpp with hpp | hpp <;> simp [hpp]
      obtain ⟨a, b⟩ := h.2.2.1 p hm
      exact ⟨a.keepBlock fun k hk => hg.block k (a.lt k hk).2 fun e => (hd p hpp) k hk e.symm, b⟩
    rcases List.mem_append.1 hpm with hpp | hpp
    · exact key (.inl hpp)
    · rcases List.mem_cons.1 hpp with rfl | hpp
      · exact ⟨h1, (h.2.2.1 (v, d) (by simp)).2⟩
      · exact key (.inr hpp)
  · rcases List.mem_cons.1 hq with rfl | hq
    · exact hp.2.2 p hp' (v, d) (by simp)
    · exact hp.2.2 p hp' q (by simp [hq])
theorem OwnL.chg (h : OwnL w lo hi (pre ++ (v, d) :: post)) (hg : w.grownBy w' v.ownBlock) : Chg lo hi w w' :=
  ⟨hg.os, hg.tape, hg.output, hg.size, fun k hk hne => hg.block k hk (fun e => by
    obtain ⟨a, b⟩ := h.2.2.1 (v, d) (by simp)
    have h1 := (a.lt k e.symm).1
    have h2 := b k e.symm
    omega)⟩
theorem RdL.below (h : RdL w ls) (hb : Below w.heap.size w w') : RdL w' ls := fun p hp => (h p hp).below hb
theorem RdL.get {p : Value × Dat} (h : RdL w ls) (hp : p ∈ ls) : RdD w p.1 p.2 := h p hp
theorem RdL.nil : RdL w [] := fun _ hp => by cases hp
theorem RdL.cons (h : RdD w v d) (k : RdL w ls) : RdL w ((v, d) :: ls) := by
  intro p hp
  rcases List.mem_cons.1 hp with rfl | hp
  · exact h
  · exact k p hp
theorem RdL.append (h : RdL w ls) (k : RdL w ls2) : RdL w (ls ++ ls2) := by
  intro p hp
  rcases List.mem_append.1 hp with hp | hp
  · exact h p hp
  · exact k p hp
theorem RdL.sub (h : RdL w ls) (hs : ∀ p ∈ ls2, p ∈ ls) : RdL w ls2 := fun p hp => h p (hs p hp)
theorem OwnL.alloc (h : OwnL w lo hi ls) (o : Obj) : OwnL (w.alloc o) lo hi ls := h.keepBlock (by simp) fun k _ hk => Below.heap_alloc w o k (Nat.lt_of_lt_of_le hk h.2.1)
theorem OwnL.drew (h : OwnL w lo hi ls) : OwnL w.drew lo hi ls := h
theorem OwnL.drewN (h : OwnL w lo hi ls) (n : Nat) : OwnL (w.drewN n) lo hi ls := h
theorem OwnL.setBox {g i : Nat} {u : Value} (h : OwnL w lo hi ls) (hd : g < lo ∨ hi ≤ g) : OwnL (w.setCell ⟨g, i, none⟩ u) lo hi ls := h.keepBlock (by simp [World.setCell]) fun k h1 h2 => Below.heap_setCell _ _ _ _ (fun e => by simp at e; omega)
theorem OwnL.widen (h : OwnL w lo hi ls) (hb : lo2 ≤ lo) : OwnL w lo2 w.heap.size ls := h.mono hb h.2.1 (Nat.le_refl _)
/-- Slices that read so, in blocks from lo on and below hi. -/
def NewL (w : World) (lo hi : Nat) (ls : List (Value × Dat)) : Prop :=
  lo ≤ hi ∧ hi ≤ w.heap.size ∧ ∀ p ∈ ls, OwnD w lo p.1 p.2 ∧ ∀ k, p.1.ownBlock = some k → k < hi
theorem OwnL.new (h : OwnL w lo hi ls) : NewL w lo hi ls := ⟨h.1, h.2.1, h.2.2.1⟩
theorem NewL.rd (h : NewL w lo hi ls) : RdL w ls := fun p hp => (h.2.2 p hp).1.rd
theorem NewL.keepBlock (h : NewL w lo hi ls) (hs : w.heap.size ≤ w'.heap.size) (hb : ∀ k, lo ≤ k → k < hi → w'.heap[k]? = w.heap[k]?) : NewL w' lo hi ls :=
  ⟨h.1, Nat.le_trans h.2.1 hs, fun p hp => ⟨(h.2.2 p hp).1.keepBlock fun k hk => hb k ((h.2.2 p hp).1.lt k hk).1 ((h.2.2 p hp).2 k hk), (h.2.2 p hp).2⟩⟩
theorem NewL.below (h : NewL w lo hi ls) (hb : Below w.heap.size w w') : NewL w' lo hi ls :=
  h.keepBlock hb.size fun k _ hk => hb.block k (Nat.lt_of_lt_of_le hk h.2.1)
theorem NewL.away (h : NewL w lo2 hi2 ls) (hc : Chg lo hi w w') (hd : hi ≤ lo2 ∨ hi2 ≤ lo) : NewL w' lo2 hi2 ls :=
  h.keepBlock hc.size fun k h1 h2 => hc.block k (Nat.lt_of_lt_of_le h2 h.2.1) (by omega)
theorem NewL.alloc (h : NewL w lo hi ls) (o : Obj) : NewL (w.alloc o) lo hi ls := h.keepBlock (by simp) fun k _ hk => Below.heap_alloc w o k (Nat.lt_of_lt_of_le hk h.2.1)
theorem NewL.drew (h : NewL w lo hi ls) : NewL w.drew lo hi ls := h
theorem NewL.setBox {g i : Nat} {u : Value} (h : NewL w lo hi ls) (hd : g < lo ∨ hi ≤ g) : NewL (w.setCell ⟨g, i, none⟩ u) lo hi ls := h.keepBlock (by simp [World.setCell]) fun k h1 h2 => Below.heap_setCell _ _ _ _ (fun e => by simp at e; omega)
theorem NewL.mono (h : NewL w lo hi ls) (h1 : lo2 ≤ lo) (h2 : hi ≤ hi2) (h3 : hi2 ≤ w.heap.size) : NewL w lo2 hi2 ls :=
  ⟨by have := h.1; omega, h3, fun p hp => ⟨(h.2.2 p hp).1.mono h1, fun k hk => Nat.lt_of_lt_of_le ((h.2.2 p hp).2 k hk) h2⟩⟩
theorem NewL.widen (h : NewL w lo hi ls) (hb : lo2 ≤ lo) : NewL w lo2 w.heap.size ls := h.mono hb h.2.1 (Nat.le_refl _)
theorem NewL.append {lo2 hi2 : Nat} (h : NewL w lo hi ls) (k : NewL w lo2 hi2 ls2) (h1 : B ≤ lo) (h2 : B ≤ lo2) : NewL w B w.heap.size (ls ++ ls2) := by
  refine ⟨by have := h.1; have := h.2.1; omega, Nat.le_refl _, fun p hp => ?_⟩
  rcases List.mem_append.1 hp with hp | hp
  · exact ⟨(h.2.2 p hp).1.mono h1, fun b hb => ((h.2.2 p hp).1.lt b hb).2⟩
  · exact ⟨(k.2.2 p hp).1.mono h2, fun b hb => ((k.2.2 p hp).1.lt b hb).2⟩
theorem NewL.nil (w : World) : NewL w w.heap.size w.heap.size [] := (OwnL.nil w).new
/-- Two results, one behind the other. -/
theorem OwnL.then {lo1 hi1 : Nat} (h : OwnL w lo hi ls) (k : OwnL w lo1 hi1 ls2) (hm : hi ≤ lo1) : OwnL w lo hi1 (ls ++ ls2) :=
  (h.mono (Nat.le_refl _) hm (by have := k.1; have := k.2.1; omega)).append k
theorem RdL.one {l : List Int} (h : Rd w v l) : RdL w [(v, .ints l)] := RdL.cons (d := .ints l) h RdL.nil
theorem RdL.ints {l : List Int} (h : RdL w [(v, .ints l)]) : Rd w v l := h (v, .ints l) (by simp)
theorem NewR.ownL {l : List Int} {v : Value} (h : NewR w w' v l) (hs : w.heap.size ≤ w'.heap.size) : OwnL w' w.heap.size w'.heap.size [(v, .ints l)] :=
  (OwnL.one (d := .ints l) (show OwnD w' w.heap.size v (.ints l) from h.1) hs)
theorem OwnD.form (h : OwnD w base v d) : ∃ A n c, v = .slice A n c := by
  rcases h.2 with ⟨rfl, _⟩ | ⟨g, cap, cur, rfl, _⟩
  · exact ⟨_, _, _, rfl⟩
  · exact ⟨_, _, _, rfl⟩
theorem OwnL.form (h : OwnL w lo hi ((v, d) :: ls)) : ∃ A n c, v = .slice A n c := (h.get (p := (v, d)) (by simp)).form
theorem NewL.form (h : NewL w lo hi ((v, d) :: ls)) : ∃ A n c, v = .slice A n c := (h.2.2 (v, d) (by simp)).1.form
end
end Go.Proofs.Ytodnahpegecpiaa

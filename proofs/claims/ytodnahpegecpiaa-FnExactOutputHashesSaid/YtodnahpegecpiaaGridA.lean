/- An append of a slice to a slice of slices of the call's own. -/
import Derived.Test.YtodnahpegecpiaaGrid3
namespace Go.Proofs.Ytodnahpegecpiaa
set_option linter.unusedSimpArgs false
set_option linter.unusedVariables false
open Go.RowKit
theorem run_append_row {w : World} {base ty : Nat} {v : Value} {us : List Value} (hown : OwnD w base v (.rows us)) {g : Nat} {u : Value} (hu : u.oneCell' = true) (hb : Box w g #[u] 25) (hlen : us.length ≤ 1099511627776) (hbase : base ≤ w.heap.size) :
    ∃ v' w', (Builtin.append_ #[54, 54] ty #[v, .slice (some ⟨g, 0, none⟩) 1 1]).run Try.prog w = .ok v' w' ∧ OwnD w' base v' (.rows (us ++ [u])) ∧ w.grownBy w' v.ownBlock ∧ (v'.ownBlock = v.ownBlock ∨ v'.ownBlock = some w.heap.size) := by
  obtain ⟨i0, hi, hz0, hz1, hz2⟩ := info_parts ints_info
  obtain ⟨v', w', h1, h2, h3, _, h5⟩ := run_append_own_at (P := Try.prog) w base 54 ty 25 i0 (.slice none 0 0) 1 24 Try.underlying54 hi hz0 hz1 hz2 rfl (by decide) v us.length us hown ⟨g, 0, none⟩ 1 1 [u] rfl
    (fun j x hx => by
      match j, hx with
      | 0, hx => simp at hx; subst hx; rw [Addr.add_lit]; exact hb.cell 0) (by intro x hx; simp at hx; subst hx; exact hu) (by unfold maxLen; omega) (by omega) hbase
  refine ⟨v', w', h1, ?_, h3, h5⟩
  show World.ownsRow _ _ _ _ _ (us ++ [u]).length _
  rw [List.length_append]
  exact h2
/-- A slice has grown, and one more is laid behind the others. -/
theorem OwnL.grow {w w' : World} {lo hi g1 g2 : Nat} {v v' u : Value} {d d' d2 : Dat} {ls : List (Value × Dat)} (h : OwnL w lo hi ((v, d) :: ls)) (q : OwnL w g1 g2 [(u, d2)]) (hq : hi ≤ g1) (h1 : OwnD w' lo v' d') (hg : w.grownBy w' v.ownBlock)
    (hb : v'.ownBlock = v.ownBlock ∨ v'.ownBlock = some w.heap.size) : OwnL w' lo w'.heap.size ((v', d') :: (ls ++ [(u, d2)])) := by
  have hp := List.pairwise_cons.1 h.2.2.2
  have hs := hg.size
  have hlo := h.1
  have hhi := h.2.1
  have hv : ∀ k, v.ownBlock = some k → k < hi := (h.2.2.1 (v, d) (by simp)).2
  have hu := q.2.2.1 (u, d2) (by simp)
  have hq2 := q.2.1
  have hk : ∀ p ∈ ls, OwnD w lo p.1 p.2 ∧ ∀ k, p.1.ownBlock = some k → k < hi := fun p hpm => h.2.2.1 p (by simp [hpm])
  refine ⟨by omega, Nat.le_refl _, fun p hpm => ?_, List.pairwise_cons.2 ⟨fun p hpm => ?_, List.pairwise_append.2 ⟨hp.2, List.pairwise_singleton _ _, fun p hpm r hr => ?_⟩⟩⟩
  · simp only [List.mem_cons, List.mem_append, List.not_mem_nil, or_false] at hpm
    rcases hpm with rfl | hpm | rfl
    · exact ⟨h1, fun k hk => (h1.lt k hk).2⟩
    · obtain ⟨a, b⟩ := hk p hpm
      exact ⟨a.keepBlock fun k hkk => hg.block k (a.lt k hkk).2 fun e => hp.1 p hpm k e.symm hkk, fun k hkk => by have := b k hkk; omega⟩
    · refine ⟨(OwnD.mono hu.1 (by omega : lo ≤ g1)).keepBlock fun k hkk => hg.block k (hu.1.lt k hkk).2 fun e => ?_, fun k hkk => ?_⟩
      · have := hv k e.symm
        have := (hu.1.lt k hkk).1
        omega
      · have := hu.2 k hkk; omega
  · intro k hkv hkp
    simp only [List.mem_append, List.mem_cons, List.not_mem_nil, or_false] at hpm
    rcases hpm with hpm | rfl
    · rcases hb with hb | hb
      · exact hp.1 p hpm k (by rw [← hb]; exact hkv) hkp
      · rw [hb] at hkv; cases hkv
        have := (hk p hpm).2 _ hkp; omega
    · have h3 := (hu.1.lt k hkp).1
      have h4 := hu.2 k hkp
      rcases hb with hb | hb
      · have := hv k (by rw [← hb]; exact hkv); omega
      · rw [hb] at hkv; cases hkv; omega
  · simp at hr; subst hr
    intro k hkp hku
    have h3 := (hu.1.lt k hku).1
    have h4 := (hk p hpm).2 k hkp
    omega
theorem OwnL.lit2 {w : World} {g : Nat} {a b : Int} (h : Box w g #[.int .i64 a, .int .i64 b] 3) : OwnL w g (g + 1) [(.slice (some ⟨g, 0, none⟩) 2 2, .ints [a, b])] := by
  refine ⟨by omega, h.lt, fun p hp => ?_, List.pairwise_singleton _ _⟩
  simp at hp; subst hp
  refine ⟨⟨rfl, .inr ⟨g, 2, _, rfl, Nat.le_refl _, h, Nat.le_refl _, by unfold maxLen; omega, rfl, rfl⟩⟩, fun k hk => ?_⟩
  simp [Value.ownBlock] at hk; omega
theorem OwnG.lit0 {w : World} {g : Nat} (h : Box w g #[] 25) : OwnG w g (g + 1) (.slice (some ⟨g, 0, none⟩) 0 0) [] := by
  refine ⟨[], rfl, by omega, h.lt, fun p hp => ?_, List.pairwise_singleton _ _⟩
  simp [gridL] at hp; subst hp
  refine ⟨⟨rfl, .inr ⟨g, 0, _, rfl, Nat.le_refl _, h, Nat.le_refl _, by unfold maxLen; omega, rfl, rfl⟩⟩, fun k hk => ?_⟩
  simp [Value.ownBlock] at hk; omega
theorem OwnG.none {w : World} {lo : Nat} (hs : lo ≤ w.heap.size) : OwnG w lo w.heap.size (.slice none 0 0) [] := by
  refine ⟨[], rfl, hs, Nat.le_refl _, fun p hp => ?_, List.pairwise_singleton _ _⟩
  simp [gridL] at hp; subst hp
  exact ⟨World.ownsRow_nil _ _ _ _, fun k hk => by cases hk⟩
theorem appendH_G {ops : Array Oper} {Q : Exit → Act → World → Prop} {md : Region.Mode} {S : World → Prop} {i : Nat} {oi : Oper} {fuel : Nat} {listed : Array Bool} {a : Act} {w : World} (s x : Operand)
    (ho : oi.op = .call { callee := .builtin .append, args := #[s, x], argTypes := #[54, 54] })
    {lo hi : Nat} {v : Value} {ll : List (List Int)} (hs : a.eval s = v) (r : OwnG w lo hi v ll) {g g1 g2 : Nat} {A : Option Addr} {n c : Nat} {l : List Int} (hx : a.eval x = .slice (some ⟨g, 0, none⟩) 1 1) (hb : Box w g #[.slice A n c] 25) (q : OwnL w g1 g2 [(.slice A n c, .ints l)]) (hq : hi ≤ g1) (hlen : ll.length ≤ 1099511627776)
    (h : ∀ A' n' c' w', OwnG w' lo w'.heap.size (.slice A' n' c') (ll ++ [l]) → Chg lo hi w w' →
      S w' ∧ (S w' → wpAnyH Try.prog md ops Q S fuel (listed.setIfInBounds i true) (a.put oi.dst (.slice A' n' c')) w')) :
    StepH Try.prog md ops Q S fuel listed i oi a w := by
  obtain ⟨us, e, r⟩ := r
  have hown : OwnD w lo v (.rows us) := r.get (p := (v, .rows us)) (by simp [gridL])
  have hr1 := r.1
  have hr2 := r.2.1
  obtain ⟨v', w', hrun, h2, h3, h4⟩ := run_append_row (ty := oi.type) hown (u := .slice A n c) rfl hb (by omega) (by omega)
  have hc : Chg lo hi w w' := OwnL.chg (pre := []) (v := v) (d := .rows us) r h3
  obtain ⟨A', n', c', rfl⟩ := h2.form
  have hG : OwnG w' lo w'.heap.size (.slice A' n' c') (ll ++ [l]) := by
    refine ⟨us ++ [.slice A n c], by simp [e], ?_⟩
    have h5 := OwnL.grow (v := v) (d := .rows us) r q hq h2 h3 h4
    unfold gridL
    rw [List.map_append, List.zip_append (by simpa using e)]
    exact h5
  obtain ⟨h6, h7⟩ := h A' n' c' w' hG hc
  unfold StepH Oper.wp execOp
  simp only [ho, resolve, invoke, builtin, Sem.run_bind, Sem.run_pure, Result.andThen_ok, List.map_toArray, List.map_cons, List.map_nil, hs, hx, hrun]
  exact ⟨h6, h7 h6⟩
/-- The lists f 0, f 1, .. -/
def genLL (f : Nat → List Int) (n : Nat) : List (List Int) := (List.range n).map f
theorem genLL_len (f : Nat → List Int) (n : Nat) : (genLL f n).length = n := by simp [genLL]
theorem genLL_snoc (f : Nat → List Int) (n : Nat) : genLL f (n + 1) = genLL f n ++ [f n] := by simp [genLL, List.range_succ]
theorem genLL_at {f : Nat → List Int} {n j : Nat} (h : j < n) : (genLL f n).getD j [] = f j := by simp [genLL, List.getD, h]
theorem genLL_sum (f : Nat → List Int) (n c : Nat) (h : ∀ j, (f j).length = c) (k : Nat) (hk : k ≤ n) : sumLen (genLL f n) k = k * c := by
  induction k with
  | zero => simp [sumLen_zero]
  | succ k ih =>
    rw [sumLen_succ (by rw [genLL_len]; omega), ih (by omega), genLL_at (by omega), h, Nat.succ_mul]
theorem genLL_bd (f : Nat → List Int) (n c : Nat) (h : ∀ j, (f j).length = c) (hn : n ≤ 1048576) (hc : c ≤ 2) : BdLL (genLL f n) := by
  refine ⟨by rw [genLL_len]; exact hn, fun j => ?_, ?_⟩
  · by_cases hj : j < n
    · rw [genLL_at hj, h]; omega
    · simp [List.getD, genLL, hj]
  · rw [genLL_sum f n c h _ (by rw [genLL_len]; exact Nat.le_refl _), genLL_len]
    have : n * c ≤ n * 2 := Nat.mul_le_mul_left _ hc
    omega
theorem BdLL_nil : BdLL [] := ⟨by simp, by simp, by simp [sumLen]⟩
end Go.Proofs.Ytodnahpegecpiaa

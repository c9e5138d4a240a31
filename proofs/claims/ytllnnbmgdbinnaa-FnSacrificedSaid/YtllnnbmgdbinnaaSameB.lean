/- Members of owned rows; literal slices; a contract of sameInts on equal lists (the twin of XSame, free of the seat ra). -/
import Derived.Test.YtllnnbmgdbinnaaAuto
import Derived.Test.YtllnnbmgdbinnaaShares
namespace Go.Proofs.Ytllnnbmgdbinnaa
set_option linter.unusedSimpArgs false
set_option linter.unusedVariables false
open Go.RowKit
theorem OwnL.cellAt {w : World} {lo hi g o n c : Nat} {l : List Int} (h : OwnL w lo hi [(.slice (some ⟨g, o, none⟩) n c, .ints l)]) (j : Nat) (hj : j < l.length) : w.cell? ⟨g, o + j, none⟩ = some (.int .i64 (nth l j)) := by
 obtain ⟨A, m, d, e, hI⟩ := h.rd.ints
 cases e
 have hl := hI.len
 obtain ⟨g', o', e', _, hc⟩ := hI.block (by omega)
 cases e'
 exact hc j (by omega)
theorem OwnL.lit0 {w : World} {g : Nat} (h : Box w g #[] 3) : OwnL w g (g + 1) [(.slice (some ⟨g, 0, none⟩) 0 0, .ints [])] := by
  refine ⟨by omega, h.lt, fun p hp => ?_, List.pairwise_singleton _ _⟩
  simp at hp; subst hp
  refine ⟨⟨rfl, .inr ⟨g, 0, _, rfl, Nat.le_refl _, h, Nat.le_refl _, by unfold maxLen; omega, rfl, rfl⟩⟩, fun k hk => ?_⟩
  simp [Value.ownBlock] at hk; omega
theorem OwnL.lit1 {w : World} {g : Nat} {k : Int} (h : Box w g #[.int .i64 k] 3) : OwnL w g (g + 1) [(.slice (some ⟨g, 0, none⟩) 1 1, .ints [k])] := by
  refine ⟨by omega, h.lt, fun p hp => ?_, List.pairwise_singleton _ _⟩
  simp at hp; subst hp
  refine ⟨⟨rfl, .inr ⟨g, 1, _, rfl, Nat.le_refl _, h, Nat.le_refl _, by unfold maxLen; omega, rfl, rfl⟩⟩, fun k hk => ?_⟩
  simp [Value.ownBlock] at hk; omega
theorem OwnL.some {w : World} {lo hi n c : Nat} {A : Option Addr} {l : List Int} (h : OwnL w lo hi [(.slice A n c, .ints l)]) (hl : 0 < l.length) : ∃ g o, A = some ⟨g, o, none⟩ := by
 obtain ⟨A', m, d, e, hI⟩ := h.rd.ints
 cases e
 obtain ⟨g', o', e', _, _⟩ := hI.block (by rw [← hI.len]; exact hl)
 exact ⟨g', o', e'⟩
theorem ownCell {w : World} {lo hi g o n c : Nat} {l : List Int} {ls : List (Value × Dat)} (h : OwnL w lo hi ls) (hm : ((.slice (some ⟨g, o, none⟩) n c, .ints l) : Value × Dat) ∈ ls) (j : Nat) (hj : j < l.length) : w.cell? ⟨g, o + j, none⟩ = some (.int .i64 (nth l j)) := by
 obtain ⟨A, m, d, e, hI⟩ : Rd w (.slice (some ⟨g, o, none⟩) n c) l := h.rd _ hm
 cases e
 have hl := hI.len
 obtain ⟨g', o', e', _, hc⟩ := hI.block (by omega)
 cases e'
 exact hc j (by omega)
theorem ownSome {w : World} {lo hi n c : Nat} {A : Option Addr} {l : List Int} {ls : List (Value × Dat)} (h : OwnL w lo hi ls) (hm : ((.slice A n c, .ints l) : Value × Dat) ∈ ls) (hl : 0 < l.length) : ∃ g o, A = some ⟨g, o, none⟩ ∧ g < w.heap.size := by
 obtain ⟨A', m, d, e, hI⟩ : Rd w (.slice A n c) l := h.rd _ hm
 cases e
 obtain ⟨g', o', e', hg, _⟩ := hI.block (by rw [← hI.len]; exact hl)
 exact ⟨g', o', e', hg⟩
theorem ownLen {w : World} {lo hi n c : Nat} {A : Option Addr} {l : List Int} {ls : List (Value × Dat)} (h : OwnL w lo hi ls) (hm : ((.slice A n c, .ints l) : Value × Dat) ∈ ls) : n = l.length := by
 obtain ⟨A', m, d, e, hI⟩ : Rd w (.slice A n c) l := h.rd _ hm
 cases e
 exact hI.len.symm
theorem ownLenG {w : World} {lo hi n c : Nat} {A : Option Addr} {l : List (Int × Int × Int)} {ls : List (Value × Dat)} (h : OwnL w lo hi ls) (hm : ((.slice A n c, .gates l) : Value × Dat) ∈ ls) : n = l.length := by
 obtain ⟨A', m, d, e, hI⟩ : RdG w (.slice A n c) l := h.rd _ hm
 cases e
 exact hI.1.symm
theorem sOpenAdd_L (p : Int) {A : Option Addr} {n c : Nat} {l : List Int} {w : World} (h : RdL w [(.slice A n c, .ints l)]) (h5 : 1 ≤ l.length ∧ l.length ≤ 5) :
    Calls Try.prog 79 #[.int .i64 p, .slice A n c] w fun e w' => e = .returned (.int .i64 (fsum p l)) ∧ w = w' := by
 obtain ⟨A', m, d, e, hI⟩ := h.ints
 cases e
 have hl := hI.len
 exact sOpenAdd_any p A n c l w hI (by omega) (by omega) (by omega)
set_option maxRecDepth 100000 in
theorem sameInts_any (A B : Option Addr) (n c d : Nat) (l : List Int) (w : World) (h : Ints w A n l) (h2 : Ints w B n l) (hn : n ≤ 1048576) :
  Calls Try.prog 77 #[.slice A n c, .slice B n d] w fun e w' => e = .returned (.bool true) ∧ Below w.heap.size w w' := by
 go_enter Try.func77, Try.ntmps77
 go_wp2_with fail
 go_loopw [5] (fun i wr => ∃ k : Nat, k ≤ n ∧ i = .int .i64 k ∧ Below w.heap.size w wr) (fun i _ => n - (intOf i).toNat)
 case atStart => exact ⟨0, by omega, rfl, Below.refl _ _⟩
 case round =>
  obtain ⟨k, hk, rfl, hbr⟩ := hrel
  by_cases hlt : k < n
  ·obtain ⟨g, o, rfl, hg, hc⟩ := h.block (by omega)
   obtain ⟨g2, o2, rfl, hg2, hc2⟩ := h2.block (by omega)
   have hck : wr.cell? ⟨g, o + k, none⟩ = some (.int .i64 (nth l k)) := (hbr.cell hg).trans (hc k hlt)
   have hck2 : wr.cell? ⟨g2, o2 + k, none⟩ = some (.int .i64 (nth l k)) := (hbr.cell hg2).trans (hc2 k hlt)
   clear hc hc2
   go_wp2_with fail
   go_quiet (fail)
   go_wp2_with fail
   go_roundw
   case rel => exact ⟨k + 1, by omega, by go_num, below_drewN hbr _⟩
   case measure => simp [intOf]; omega
  ·go_wp2
   go_ret
   exact ⟨rfl, hbr⟩
theorem sameInts_L {v v2 : Value} {l : List Int} {w : World} (h : RdL w [(v, .ints l)]) (h2 : RdL w [(v2, .ints l)]) (hn : l.length ≤ 1048576) :
  Calls Try.prog 77 #[v, v2] w fun e w' => e = .returned (.bool true) ∧ Below w.heap.size w w' := by
 obtain ⟨A, n, c, rfl, hI⟩ := h.ints
 obtain ⟨B, m, d, rfl, hI2⟩ := h2.ints
 have e : m = n := by rw [← hI.len, ← hI2.len]
 subst e
 exact sameInts_any A B m c d l w hI hI2 (by rw [← hI.len]; exact hn)
end Go.Proofs.Ytllnnbmgdbinnaa

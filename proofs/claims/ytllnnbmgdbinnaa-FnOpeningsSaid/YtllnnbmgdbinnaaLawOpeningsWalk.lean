/- The walk of the law FnOpenings. -/
import Derived.Test.YtllnnbmgdbinnaaDrawK
import Derived.Test.YtllnnbmgdbinnaaCountF
import Derived.Test.YtllnnbmgdbinnaaOpenS
namespace Go.Proofs.Ytllnnbmgdbinnaa
set_option linter.unusedSimpArgs false
set_option linter.unusedVariables false
open Go.RowKit
theorem views_pp (p : Int) : countViews p p 0 = -1 := by
  rw [countViews_eq]
  have : elem p p = false := by
    cases h : elem p p with
    | false => rfl
    | true => have := (elem_iff.1 h).2.2; omega
  simp [this]
set_option maxRecDepth 100000 in
set_option maxHeartbeats 2000000 in
theorem walk_FnOpenings (A : Option Addr) (n c : Nat) (w : World) (hx : Bts0 w A n) :
    Calls Try.prog 5 #[.slice A n c] w fun e w' => e = .returned (.bool true) ∧ Below w.heap.size w w' := by
  by_cases hn : (1048576 : Int) < n
  · go_enter Try.func5, Try.ntmps5
    go_wp2_with fail
    refine (big_any _ _ _ _).mono ?_
    rintro e w1 ⟨rfl, rfl⟩
    go_wp2
    go_ret
    exact ⟨rfl, Below.refl _ _⟩
  · have hB0 : Bts w A n := ⟨by omega, hx.2⟩
    go_enter Try.func5, Try.ntmps5
    go_wp2_with fail
    refine (big_any _ _ _ _).mono ?_
    rintro e w_ ⟨rfl, rfl⟩
    go_wp2_with fail
    refine (DrawPrime_any n c A _ hB0).mono ?_
    rintro e w1 ⟨p, hp, rfl, b1⟩
    have hpb := fOk_bd hp
    obtain ⟨hp1, hp2⟩ := hpb
    go_wp2_with fail
    refine (DrawPlaces_any n c A _ (hB0.keep fun _ a _ ha => b1.block _ ha)).mono ?_
    rintro e w2 ⟨v, l, rfl, hl, ha, ho, b2⟩
    obtain ⟨B, d, rfl, hI⟩ := ho.reads
    rw [hl] at hI ⊢
    obtain ⟨g, o, rfl, hg, hc⟩ := hI.block (by omega)
    have c0 := hc 0 (by omega)
    simp only [Nat.add_zero] at c0
    obtain ⟨q0, q1⟩ := ha (nth l 0) (by rw [nth_lt (by omega)]; exact List.getElem_mem _)
    have hB2 : Below w.heap.size w w2 := b1.trans (b2.mono b1.size)
    have hz2 : w.heap.size ≤ w2.heap.size := hB2.size
    have hel : Hid (elem (p : Int) (nth l 0 % (p : Int)) = true) := elem_mod hp _
    have hpp := Lib.hid hp
    clear hp hc hI ha ho hl
    generalize nth l 0 = q at *
    go_wp2_with fail
    go_loopw [5] (fun x wr => ∃ k : Nat, k ≤ p ∧ x = .int .i64 k ∧ Below w2.heap.size w2 wr) (fun x _ => p - (intOf x).toNat)
    case atStart => exact ⟨0, by omega, rfl, Below.refl _ _⟩
    case round =>
      obtain ⟨k, hk, rfl, hbr⟩ := hrel
      have ck : wr.cell? ⟨g, o, none⟩ = some (.int .i64 q) := (hbr.cell (p := ⟨g, o, none⟩) hg).trans c0
      by_cases hlt : (k : Int) < (p : Int)
      · have hv : countViews (p : Int) (k : Int) (q % (p : Int)) = 1 := by
          rw [countViews_eq, hel.out, elem_iff.2 ⟨hpp.out, by omega, hlt⟩]; rfl
        go_wp2_with fail
        refine (iCountViews_L _ _ _).mono ?_
        rintro e w3 ⟨rfl, b3⟩
        rw [hv]
        clear hv
        go_wp2
        go_roundw
        case rel => exact ⟨k + 1, by omega, by go_num, hbr.trans (b3.mono hbr.size)⟩
        case measure => simp [intOf]; omega
      · go_wp2_with fail
        refine (iCountViews_L _ _ _).mono ?_
        rintro e w3 ⟨rfl, b3⟩
        rw [views_pp]
        go_wp2
        go_ret
        exact ⟨rfl, hB2.trans ((hbr.trans (b3.mono hbr.size)).mono hz2)⟩
end Go.Proofs.Ytllnnbmgdbinnaa

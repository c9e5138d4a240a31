/- The walk of the law FnMul256. -/
import Derived.Test.YtakmgghjpompoaaMul
import Derived.Test.YtakmgghjpompoaaMulAlg
import Derived.Test.YtakmgghjpompoaaPlaces
import Derived.Test.YtakmgghjpompoaaOpenS
namespace Go.Proofs.Ytakmgghjpompoaa
set_option linter.unusedSimpArgs false
set_option linter.unusedVariables false
open Go.RowKit
theorem row_eqs {a b c : Nat} (ha : a < 256) (hb : b < 256) (hc : c < 256) :
    (mulR a b == mulR b a) = true ∧ (mulR a (bits .xor .i64 b c) == bits .xor .i64 (mulR a b) (mulR a c)) = true ∧ (mulR a 1 == (a : Int)) = true ∧ (mulR a (mulR b c) == mulR (mulR a b) c) = true := by
  have hab := mulN_lt (b := b) ha
  have hac := mulN_lt (b := c) ha
  have hbc := mulN_lt (b := c) hb
  have h1 := mulR_nat (B := 1) ha (by omega)
  simp only [Int.natCast_one] at h1
  refine ⟨?_, ?_, ?_, ?_⟩
  · rw [mulR_nat ha hb, mulR_nat hb ha, mulN_comm ha hb]; simp
  · rw [xorN b c (by omega) (by omega), mulR_nat ha (xor_lt256 hb hc), mulR_nat ha hb, mulR_nat ha hc, xorN _ _ (by omega) (by omega), mulN_linB]; simp
  · rw [h1, mulN_one a ha]; simp
  · rw [mulR_nat hb hc, mulR_nat ha hb, mulR_nat ha hbc, mulR_nat hab hc, mulN_assoc ha hb hc]; simp
theorem row_two : (mulR 2 128 == 27) = true := by
  have h := mulR_nat (A := 2) (B := 128) (by omega) (by omega)
  rw [mulN_two] at h
  have e : mulR 2 128 = 27 := h
  rw [e]; rfl
theorem mod256 (x : Int) : ∃ a : Nat, a < 256 ∧ x % 256 = a := ⟨(x % 256).toNat, by omega, by omega⟩
set_option maxRecDepth 100000 in
theorem walk_FnMul256 (A : Option Addr) (n c : Nat) (w : World) (hx : Bts0 w A n) :
    Calls Try.prog 11 #[.slice A n c] w fun e w' => e = .returned (.bool true) ∧ Below w.heap.size w w' := by
  by_cases hn : (1048576 : Int) < n
  · go_enter Try.func11, Try.ntmps11
    go_wp2_with fail
    refine (big_any _ _ _ _).mono ?_
    rintro e w1 ⟨rfl, rfl⟩
    go_wp2
    go_ret
    exact ⟨rfl, Below.refl _ _⟩
  · go_enter Try.func11, Try.ntmps11
    go_wp2_with fail
    refine (big_any _ _ _ _).mono ?_
    rintro e w1 ⟨rfl, rfl⟩
    go_wp2_with fail
    refine (DrawPlaces_any n c A _ ⟨by omega, hx.2⟩).mono ?_
    rintro e w1 ⟨v, l, rfl, hl, hall, hown, hb1⟩
    obtain ⟨B, c2, rfl, hI⟩ := hown.reads
    rw [hl] at hI ⊢
    obtain ⟨g, o, rfl, hg, hc⟩ := hI.block (by omega)
    have c0 : w1.cell? ⟨g, o, none⟩ = some (.int .i64 (nth l 0)) := hc 0 (by omega)
    have c1 := hc 1 (by omega)
    have c2 := hc 2 (by omega)
    have h0 := hall (nth l 0) (by rw [nth_lt (by omega)]; exact List.getElem_mem _)
    have h1 := hall (nth l 1) (by rw [nth_lt (by omega)]; exact List.getElem_mem _)
    have h2 := hall (nth l 2) (by rw [nth_lt (by omega)]; exact List.getElem_mem _)
    clear hc hall hI hown hl hx
    generalize nth l 0 = p0 at *
    generalize nth l 1 = p1 at *
    generalize nth l 2 = p2 at *
    go_wp2_with fail
    obtain ⟨a, ha, ea⟩ := mod256 p0
    obtain ⟨b, hb, eb⟩ := mod256 p1
    obtain ⟨d, hd, ed⟩ := mod256 p2
    rw [ea, eb, ed]
    have HE := Lib.hid (row_eqs ha hb hd)
    clear ea eb ed
    obtain ⟨e1, e2, e3, e4⟩ := HE.out
    have e5 := row_two
    refine (iMul256_any _ _ _).mono ?_
    rintro e w2 ⟨rfl, hb2⟩
    have hz2 := hb2.size
    go_wp2_with fail
    refine (iMul256_any _ _ _).mono ?_
    rintro e w3 ⟨rfl, hb3⟩
    have hz3 := hb3.size
    go_wp2_with fail
    refine (iMul256_any _ _ _).mono ?_
    rintro e w4 ⟨rfl, hb4⟩
    have hz4 := hb4.size
    go_wp2_with fail
    refine (iMul256_any _ _ _).mono ?_
    rintro e w5 ⟨rfl, hb5⟩
    have hz5 := hb5.size
    go_wp2_with fail
    refine (iMul256_any _ _ _).mono ?_
    rintro e w6 ⟨rfl, hb6⟩
    have hz6 := hb6.size
    go_wp2_with fail
    refine (iMul256_any _ _ _).mono ?_
    rintro e w7 ⟨rfl, hb7⟩
    have hz7 := hb7.size
    go_wp2_with fail
    refine (iMul256_any _ _ _).mono ?_
    rintro e w8 ⟨rfl, hb8⟩
    have hz8 := hb8.size
    go_wp2_with fail
    refine (iMul256_any _ _ _).mono ?_
    rintro e w9 ⟨rfl, hb9⟩
    have hz9 := hb9.size
    go_wp2_with fail
    refine (iMul256_any _ _ _).mono ?_
    rintro e w10 ⟨rfl, hb10⟩
    have hz10 := hb10.size
    go_wp2_with fail
    refine (iMul256_any _ _ _).mono ?_
    rintro e w11 ⟨rfl, hb11⟩
    have hz11 := hb11.size
    go_wp2_with fail
    refine (iMul256_any _ _ _).mono ?_
    rintro e w12 ⟨rfl, hb12⟩
    have hz12 := hb12.size
    go_wp2_with fail
    go_ret
    refine ⟨rfl, ?_⟩
    have hz1 := hb1.size
    repeat (first | exact Below.refl _ _ | refine Below.alloc ?_ (by first | omega | (simp; done) | (simp; omega)) _ | refine Below.setCell ?_ (by first | omega | (simp; done) | (simp; omega)) _ | refine Below.drew ?_ | refine below_drewN ?_ _ | refine Below.trans ?_ (hb30.mono (by first | omega | (simp; done) | (simp; omega))) | refine Below.trans ?_ (hb29.mono (by first | omega | (simp; done) | (simp; omega))) | refine Below.trans ?_ (hb28.mono (by first | omega | (simp; done) | (simp; omega))) | refine Below.trans ?_ (hb27.mono (by first | omega | (simp; done) | (simp; omega))) | refine Below.trans ?_ (hb26.mono (by first | omega | (simp; done) | (simp; omega))) | refine Below.trans ?_ (hb25.mono (by first | omega | (simp; done) | (simp; omega))) | refine Below.trans ?_ (hb24.mono (by first | omega | (simp; done) | (simp; omega))) | refine Below.trans ?_ (hb23.mono (by first | omega | (simp; done) | (simp; omega))) | refine Below.trans ?_ (hb22.mono (by first | omega | (simp; done) | (simp; omega))) | refine Below.trans ?_ (hb21.mono (by first | omega | (simp; done) | (simp; omega))) | refine Below.trans ?_ (hb20.mono (by first | omega | (simp; done) | (simp; omega))) | refine Below.trans ?_ (hb19.mono (by first | omega | (simp; done) | (simp; omega))) | refine Below.trans ?_ (hb18.mono (by first | omega | (simp; done) | (simp; omega))) | refine Below.trans ?_ (hb17.mono (by first | omega | (simp; done) | (simp; omega))) | refine Below.trans ?_ (hb16.mono (by first | omega | (simp; done) | (simp; omega))) | refine Below.trans ?_ (hb15.mono (by first | omega | (simp; done) | (simp; omega))) | refine Below.trans ?_ (hb14.mono (by first | omega | (simp; done) | (simp; omega))) | refine Below.trans ?_ (hb13.mono (by first | omega | (simp; done) | (simp; omega))) | refine Below.trans ?_ (hb12.mono (by first | omega | (simp; done) | (simp; omega))) | refine Below.trans ?_ (hb11.mono (by first | omega | (simp; done) | (simp; omega))) | refine Below.trans ?_ (hb10.mono (by first | omega | (simp; done) | (simp; omega))) | refine Below.trans ?_ (hb9.mono (by first | omega | (simp; done) | (simp; omega))) | refine Below.trans ?_ (hb8.mono (by first | omega | (simp; done) | (simp; omega))) | refine Below.trans ?_ (hb7.mono (by first | omega | (simp; done) | (simp; omega))) | refine Below.trans ?_ (hb6.mono (by first | omega | (simp; done) | (simp; omega))) | refine Below.trans ?_ (hb5.mono (by first | omega | (simp; done) | (simp; omega))) | refine Below.trans ?_ (hb4.mono (by first | omega | (simp; done) | (simp; omega))) | refine Below.trans ?_ (hb3.mono (by first | omega | (simp; done) | (simp; omega))) | refine Below.trans ?_ (hb2.mono (by first | omega | (simp; done) | (simp; omega))) | refine Below.trans ?_ (hb1.mono (by first | omega | (simp; done) | (simp; omega))))
end Go.Proofs.Ytakmgghjpompoaa

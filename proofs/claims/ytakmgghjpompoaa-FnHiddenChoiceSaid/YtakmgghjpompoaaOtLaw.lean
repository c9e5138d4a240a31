/- What a transfer answers: the chosen message; the other stays hidden. No program is named here. -/
import Derived.Test.YtakmgghjpompoaaOtDealL
import Derived.Test.YtakmgghjpompoaaCount
namespace Go.Proofs.Ytakmgghjpompoaa
set_option linter.unusedSimpArgs false
set_option linter.unusedVariables false
theorem bx {a b : Int} (ha : 0 ≤ a ∧ a ≤ 65535) (hb : 0 ≤ b ∧ b ≤ 65535) : bits .xor .i64 (bits .xor .i64 a b) b = a ∧ bits .xor .i64 (bits .xor .i64 a b) a = b ∧ (0 ≤ bits .xor .i64 a b ∧ bits .xor .i64 a b ≤ 65535) := by
  obtain ⟨x, rfl⟩ := Int.eq_ofNat_of_zero_le ha.1
  obtain ⟨y, rfl⟩ := Int.eq_ofNat_of_zero_le hb.1
  have l : x ^^^ y < 2 ^ 16 := Nat.xor_lt_two_pow (by omega) (by omega)
  rw [xorN x y (by omega) (by omega), xorN _ y (by omega) (by omega), xorN _ x (by omega) (by omega)]
  refine ⟨?_, ?_, by omega⟩
  · rw [Nat.xor_assoc, Nat.xor_self, Nat.xor_zero]
  · rw [Nat.xor_comm x y, Nat.xor_assoc, Nat.xor_self, Nat.xor_zero]
/-- What was dealt. -/
theorem deal_new {s a : Int} (hs : 0 ≤ s ∧ s ≤ 4294967295) (ha : 0 ≤ a ∧ a ≤ 800000) :
    (0 ≤ dA s a ∧ dA s a ≤ 65535) ∧ (0 ≤ dB s a ∧ dB s a ≤ 65535) ∧ (dK s a = 0 ∨ dK s a = 1) ∧ dR s a = (if dK s a = 1 then dB s a else dA s a) ∧ dT3 s a = a + 3 := by
  have ht : tapeOk s a = true := tapeOk_iff.2 (by omega)
  have hd : dealOk s a = true := by simp only [dealOk, ht, Bool.true_and, decide_eq_true_eq]; omega
  have bd (x n : Int) (hn : 1 ≤ n) (h2 : n ≤ 65536) : 0 ≤ tapeB s x n ∧ tapeB s x n < n := by
    unfold tapeB
    rw [if_pos (inB_iff.2 ⟨hn, h2⟩)]
    exact ⟨Int.emod_nonneg _ (by omega), Int.emod_lt_of_pos _ (by omega)⟩
  have st (x n : Int) (hn : 1 ≤ n) (h2 : n ≤ 65536) (hx : 0 ≤ x ∧ x < 1000000) : tapeM s x n = x + 1 := by
    unfold tapeM tapeN
    rw [if_pos (inB_iff.2 ⟨hn, h2⟩), tapeOk_iff.2 (by omega : (0 ≤ s ∧ s ≤ 4294967295) ∧ 0 ≤ x ∧ x ≤ 1000000)]
    have : (x != 1000000) = true := by simp; omega
    rw [this]; rfl
  have e1 : dT1 s a = a + 1 := st a 65536 (by omega) (by omega) (by omega)
  have e2 : dT2 s a = a + 2 := by unfold dT2; rw [e1, st (a + 1) 65536 (by omega) (by omega) (by omega)]; omega
  have b1 := bd a 65536 (by omega) (by omega)
  have b2 := bd (dT1 s a) 65536 (by omega) (by omega)
  have b3 := bd (dT2 s a) 2 (by omega) (by omega)
  unfold dA dB dK dR dT3
  rw [hd]
  simp only [if_true]
  refine ⟨by omega, by omega, by omega, trivial, ?_⟩
  rw [e2, st (a + 2) 2 (by omega) (by omega) (by omega)]; omega
theorem ask_bit {b c : Int} (hb : b = 0 ∨ b = 1) (hc : c = 0 ∨ c = 1) : otAsk b c = (if b = c then 0 else 1) := by
  rcases hb with rfl | rfl <;> rcases hc with rfl | rfl <;> decide
theorem cnt_asks {b d : Int} (hb : b = 0 ∨ b = 1) (hd : d = 0 ∨ d = 1) : cntA b d 2 = 1 := by
  rcases hb with rfl | rfl <;> rcases hd with rfl | rfl <;> decide
/-- The two messages of the sender. -/
def oE0 (m0 m1 A B d : Int) : Int := otRep m0 m1 A B d (bits .xor .i64 m0 B) (bits .xor .i64 m0 A)
def oE1 (m0 m1 A B d : Int) : Int := otRep m0 m1 A B d (bits .xor .i64 m1 A) (bits .xor .i64 m1 B)
theorem rep_yes {m0 m1 A B d x y : Int} (h0 : 0 ≤ m0 ∧ m0 ≤ 65535) (h1 : 0 ≤ m1 ∧ m1 ≤ 65535) (hA : 0 ≤ A ∧ A ≤ 65535) (hB : 0 ≤ B ∧ B ≤ 65535) (hd : d = 0 ∨ d = 1) : otRep m0 m1 A B d x y = if d = 1 then x else y := by
  have l0 : lab m0 = true := inB_iff.2 h0
  have l1 : lab m1 = true := inB_iff.2 h1
  have l2 : lab A = true := inB_iff.2 hA
  have l3 : lab B = true := inB_iff.2 hB
  have l4 : inB d 0 1 = true := inB_iff.2 (by omega)
  rw [otRep, l0, l1, l2, l3, l4]
  simp
theorem transfer {m0 m1 A B K b R : Int} (h0 : 0 ≤ m0 ∧ m0 ≤ 65535) (h1 : 0 ≤ m1 ∧ m1 ≤ 65535) (hA : 0 ≤ A ∧ A ≤ 65535) (hB : 0 ≤ B ∧ B ≤ 65535) (hK : K = 0 ∨ K = 1) (hb : b = 0 ∨ b = 1) (hR : R = if K = 1 then B else A) :
    otRec (oE0 m0 m1 A B (otAsk b K)) (oE1 m0 m1 A B (otAsk b K)) b R = (if b = 1 then m1 else m0) := by
  have hd : otAsk b K = 0 ∨ otAsk b K = 1 := by rw [ask_bit hb hK]; split <;> simp
  have hR2 : 0 ≤ R ∧ R ≤ 65535 := by rw [hR]; split <;> assumption
  rw [oE0, oE1, rep_yes h0 h1 hA hB hd, rep_yes h0 h1 hA hB hd]
  have p1 := bx h0 hA
  have p2 := bx h0 hB
  have p3 := bx h1 hA
  have p4 := bx h1 hB
  have le0 : lab (if otAsk b K = 1 then bits .xor .i64 m0 B else bits .xor .i64 m0 A) = true := by split <;> exact inB_iff.2 (by omega)
  have le1 : lab (if otAsk b K = 1 then bits .xor .i64 m1 A else bits .xor .i64 m1 B) = true := by split <;> exact inB_iff.2 (by omega)
  rw [otRec, le0, le1, show lab R = true from inB_iff.2 hR2, show inB b 0 1 = true from inB_iff.2 (by omega), ask_bit hb hK, hR]
  rcases hb with rfl | rfl <;> rcases hK with rfl | rfl <;> simp [p1.1, p2.1, p3.1, p4.1]
theorem hidden_0 {m0 m1 A B K : Int} (h0 : 0 ≤ m0 ∧ m0 ≤ 65535) (h1 : 0 ≤ m1 ∧ m1 ≤ 65535) (hA : 0 ≤ A ∧ A ≤ 65535) (hB : 0 ≤ B ∧ B ≤ 65535) (hK : K = 0 ∨ K = 1) :
    bits .xor .i64 (oE1 m0 m1 A B (otAsk 0 K)) m1 = (if K = 1 then A else B) := by
  have hb : (0 : Int) = 0 ∨ (0 : Int) = 1 := .inl rfl
  have hd : otAsk 0 K = 0 ∨ otAsk 0 K = 1 := by rw [ask_bit hb hK]; split <;> simp
  rw [oE1, rep_yes h0 h1 hA hB hd, ask_bit hb hK]
  have p3 := bx h1 hA
  have p4 := bx h1 hB
  rcases hK with rfl | rfl <;> simp [p3.2.1, p4.2.1]
theorem hidden_1 {m0 m1 A B K : Int} (h0 : 0 ≤ m0 ∧ m0 ≤ 65535) (h1 : 0 ≤ m1 ∧ m1 ≤ 65535) (hA : 0 ≤ A ∧ A ≤ 65535) (hB : 0 ≤ B ∧ B ≤ 65535) (hK : K = 0 ∨ K = 1) :
    bits .xor .i64 (oE0 m0 m1 A B (otAsk 1 K)) m0 = (if K = 1 then A else B) := by
  have hb : (1 : Int) = 0 ∨ (1 : Int) = 1 := .inr rfl
  have hd : otAsk 1 K = 0 ∨ otAsk 1 K = 1 := by rw [ask_bit hb hK]; split <;> simp
  rw [oE0, rep_yes h0 h1 hA hB hd, ask_bit hb hK]
  have p1 := bx h0 hA
  have p2 := bx h0 hB
  rcases hK with rfl | rfl <;> simp [p1.2.1, p2.2.1]
end Go.Proofs.Ytakmgghjpompoaa

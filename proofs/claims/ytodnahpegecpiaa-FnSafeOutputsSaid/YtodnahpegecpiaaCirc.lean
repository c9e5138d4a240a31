/- Circuits, garbling and evaluating, as plain functions of lists. No program is walked here. -/
import Derived.Test.YtodnahpegecpiaaLab
import Derived.Test.YtodnahpegecpiaaBitsOk
import Derived.Test.YtodnahpegecpiaaTape
import Derived.Test.YtodnahpegecpiaaXl
namespace Go.Proofs.Ytodnahpegecpiaa
set_option linter.unusedSimpArgs false
set_option linter.unusedVariables false
/-- The gate at a place. -/
def gAt (l : List (Int × Int × Int)) (j : Nat) : Int × Int × Int := l.getD j (0, 0, 0)
def gateOk (k a b n : Int) : Bool :=
  if k = 1 then inB a 0 79 && b == 0 else if k = 2 then inB a 0 1 && b == 0
  else if k = 3 ∨ k = 4 then (decide (0 ≤ a) && decide (a < n)) && (decide (0 ≤ b) && decide (b < n))
  else if k = 5 then (decide (0 ≤ a) && decide (a < n)) && b == 0 else false
def gOk (g : Int × Int × Int) (n : Nat) : Bool := gateOk g.1 g.2.1 g.2.2 n
def gatesTo (l : List (Int × Int × Int)) (n : Nat) : Bool := (List.range n).all fun j => gOk (gAt l j) j
def outsOk (m : Nat) (o : List Int) : Bool := o.all fun x => inB x 0 ((m : Int) - 1)
def circOk (l : List (Int × Int × Int)) (o : List Int) : Bool := decide (l.length ≤ 6000) && gatesTo l l.length && outsOk l.length o
theorem gatesTo_snoc (l : List (Int × Int × Int)) (k : Nat) : gatesTo l (k + 1) = (gatesTo l k && gOk (gAt l k) k) := by simp [gatesTo, List.range_succ]
theorem gatesTo_yes {l : List (Int × Int × Int)} {k : Nat} (h : gatesTo l k = true) (h2 : gOk (gAt l k) k = true) : gatesTo l (k + 1) = true := by rw [gatesTo_snoc, h, h2]; rfl
theorem gatesTo_no {l : List (Int × Int × Int)} {k n : Nat} (h : gOk (gAt l k) k = false) (hk : k < n) : gatesTo l n = false := by
  cases e : gatesTo l n with
  | false => rfl
  | true =>
    have := List.all_eq_true.1 e k (List.mem_range.2 hk)
    have := h.symm.trans this; cases this
theorem gatesTo_at {l : List (Int × Int × Int)} {k n : Nat} (h : gatesTo l n = true) (hk : k < n) : gOk (gAt l k) k = true := List.all_eq_true.1 h k (List.mem_range.2 hk)
/-- How many of the first gates are of a kind. -/
def cntG (l : List (Int × Int × Int)) (kind : Int) : Nat → Nat
  | 0 => 0
  | j + 1 => cntG l kind j + if (gAt l j).1 = kind then 1 else 0
theorem cntG_le (l : List (Int × Int × Int)) (kind : Int) : ∀ k, cntG l kind k ≤ k
  | 0 => Nat.le_refl _
  | k + 1 => by have := cntG_le l kind k; rw [cntG]; split <;> omega
theorem cntG_mono (l : List (Int × Int × Int)) (kind : Int) (j : Nat) : ∀ k, j ≤ k → cntG l kind j ≤ cntG l kind k
  | 0 => fun h => by have : j = 0 := by omega
                     subst this; exact Nat.le_refl _
  | k + 1 => fun h => by
    rcases Nat.lt_or_ge j (k + 1) with h1 | h1
    · have := cntG_mono l kind j k (by omega); rw [cntG]; omega
    · have : j = k + 1 := by omega
      subst this; exact Nat.le_refl _
theorem cntG_lt {l : List (Int × Int × Int)} {kind : Int} {k n : Nat} (hk : k < n) (h : (gAt l k).1 = kind) : cntG l kind k < cntG l kind n := by
  have := cntG_mono l kind (k + 1) n hk
  rw [cntG, if_pos h] at this
  omega
theorem cntG_yes {l : List (Int × Int × Int)} {kind : Int} {k : Nat} (h : (gAt l k).1 = kind) : cntG l kind (k + 1) = cntG l kind k + 1 := by rw [cntG, if_pos h]
theorem cntG_no {l : List (Int × Int × Int)} {kind : Int} {k : Nat} (h : (gAt l k).1 ≠ kind) : cntG l kind (k + 1) = cntG l kind k := by rw [cntG, if_neg h]; rfl
def countG (l : List (Int × Int × Int)) (kind : Int) : Nat := cntG l kind l.length
/-- The label of 0 of an input wire. -/
def inputZero (s a k : Int) : Int := if tapeOk s a && inB k 0 1000000 then tapeB (keyedI s 9 k) 0 65536 else -1
def dlOk (s a : Int) : Bool := tapeOk s a && decide (a ≤ 900000)
def deltaOf (s a : Int) : Int := if dlOk s a then bits .or .i64 (tapeB s a 65536) 1 else 0
def deltaN (s a : Int) : Int := if dlOk s a then tapeM s a 65536 else a
theorem tapeB_lab (s a : Int) : lab (tapeB s a 65536) = true := by
  obtain ⟨h1, h2⟩ := tapeW_bd s a
  rw [tapeB, if_pos (by decide)]
  exact lab_iff.2 ⟨by omega, by omega⟩
theorem inputZero_lab {s a k : Int} (h : tapeOk s a = true) (hk : inB k 0 1000000 = true) : lab (inputZero s a k) = true := by
  rw [inputZero, h, hk]; exact tapeB_lab _ _
theorem or1_lab {x : Int} (h : lab x = true) : lab (bits .or .i64 x 1) = true ∧ bits .or .i64 x 1 % 2 = 1 := by
  obtain ⟨n, rfl, hn⟩ := lab_nat h
  have e := orN n 1 (by omega) (by omega)
  rw [show bits .or .i64 (n : Int) 1 = bits .or .i64 (n : Int) ((1 : Nat) : Int) from rfl, e]
  have h1 := Nat.or_lt_two_pow (n := 16) (show n < 2 ^ 16 by omega) (show 1 < 2 ^ 16 by decide)
  have h2 : (n ||| 1) % 2 = 1 := by
    have := Nat.or_mod_two_pow (a := n) (b := 1) (n := 1)
    simp only [Nat.pow_one] at this
    rw [this]
    rcases (show n % 2 = 0 ∨ n % 2 = 1 by omega) with e | e <;> rw [e] <;> rfl
  exact ⟨lab_iff.2 ⟨by omega, by omega⟩, by omega⟩
theorem deltaOf_lab (s a : Int) : lab (deltaOf s a) = true := by
  unfold deltaOf; split
  · exact (or1_lab (tapeB_lab _ _)).1
  · decide
theorem deltaOf_odd {s a : Int} (h : dlOk s a = true) : deltaOf s a % 2 = 1 := by
  rw [deltaOf, if_pos h]; exact (or1_lab (tapeB_lab _ _)).2
/-- The two entries of an and gate's table, and its label of 0. -/
def tabG (d a b n : Int) : Int := xo (xo (hashI a (2 * n)) (hashI (xo a d) (2 * n))) (sel b d)
def tabE (d a b n : Int) : Int := xo (xo (hashI b (2 * n + 1)) (hashI (xo b d) (2 * n + 1))) a
def andZ (d a b n : Int) : Int := xo (xo (xo (hashI a (2 * n)) (hashI b (2 * n + 1))) (sel a (tabG d a b n))) (sel b (xo (tabE d a b n) a))
def zNew (s a d : Int) (zs : List Int) (g : Int × Int × Int) (n : Nat) : Int :=
  if g.1 = 1 then inputZero s a g.2.1 else if g.1 = 2 then inputZero s a (1000 + n)
  else if g.1 = 3 then xo (nth zs g.2.1.toNat) (nth zs g.2.2.toNat) else if g.1 = 5 then xo (nth zs g.2.1.toNat) d
  else if g.1 = 4 then andZ d (nth zs g.2.1.toNat) (nth zs g.2.2.toNat) n else 0
def gZs (s a d : Int) (l : List (Int × Int × Int)) : Nat → List Int
  | 0 => []
  | k + 1 => gZs s a d l k ++ [zNew s a d (gZs s a d l k) (gAt l k) k]
def gTs (s a d : Int) (l : List (Int × Int × Int)) : Nat → List Int
  | 0 => []
  | k + 1 => gTs s a d l k ++ if (gAt l k).1 = 4 then [tabG d (nth (gZs s a d l k) (gAt l k).2.1.toNat) (nth (gZs s a d l k) (gAt l k).2.2.toNat) k, tabE d (nth (gZs s a d l k) (gAt l k).2.1.toNat) (nth (gZs s a d l k) (gAt l k).2.2.toNat) k] else []
theorem gZs_len (s a d : Int) (l : List (Int × Int × Int)) : ∀ k, (gZs s a d l k).length = k
  | 0 => rfl
  | k + 1 => by rw [gZs, List.length_append, gZs_len s a d l k]; rfl
theorem gTs_len (s a d : Int) (l : List (Int × Int × Int)) : ∀ k, (gTs s a d l k).length = 2 * cntG l 4 k
  | 0 => rfl
  | k + 1 => by rw [gTs, List.length_append, gTs_len s a d l k, cntG]; split <;> simp <;> omega
/-- Evaluating with labels. -/
def xNew (lb cs ts : List Int) (l : List (Int × Int × Int)) (out : List Int) (k : Nat) : Int :=
  if (gAt l k).1 = 1 then nth lb (gAt l k).2.1.toNat else if (gAt l k).1 = 2 then nth cs (cntG l 2 k)
  else if (gAt l k).1 = 3 then xo (nth out (gAt l k).2.1.toNat) (nth out (gAt l k).2.2.toNat) else if (gAt l k).1 = 5 then nth out (gAt l k).2.1.toNat
  else if (gAt l k).1 = 4 then evAnd (nth out (gAt l k).2.1.toNat) (nth out (gAt l k).2.2.toNat) (nth ts (2 * cntG l 4 k)) (nth ts (2 * cntG l 4 k + 1)) k else 0
def eXs (lb cs ts : List Int) (l : List (Int × Int × Int)) : Nat → List Int
  | 0 => []
  | k + 1 => eXs lb cs ts l k ++ [xNew lb cs ts l (eXs lb cs ts l k) k]
theorem eXs_len (lb cs ts : List Int) (l : List (Int × Int × Int)) : ∀ k, (eXs lb cs ts l k).length = k
  | 0 => rfl
  | k + 1 => by rw [eXs, List.length_append, eXs_len lb cs ts l k]; rfl
/-- Evaluating with bits. -/
def vNew (bs : List Int) (out : List Int) (g : Int × Int × Int) : Int :=
  if g.1 = 1 then nth bs g.2.1.toNat else if g.1 = 2 then g.2.1
  else if g.1 = 3 then bits .xor .i64 (nth out g.2.1.toNat) (nth out g.2.2.toNat) else if g.1 = 4 then bits .and .i64 (nth out g.2.1.toNat) (nth out g.2.2.toNat)
  else if g.1 = 5 then 1 - nth out g.2.1.toNat else g.2.1
def vXs (bs : List Int) (l : List (Int × Int × Int)) : Nat → List Int
  | 0 => []
  | k + 1 => vXs bs l k ++ [vNew bs (vXs bs l k) (gAt l k)]
theorem vXs_len (bs : List Int) (l : List (Int × Int × Int)) : ∀ k, (vXs bs l k).length = k
  | 0 => rfl
  | k + 1 => by rw [vXs, List.length_append, vXs_len bs l k]; rfl
/-- The labels of the constants; the bits that decode the outputs. -/
def cstL (d : Int) (zs : List Int) (l : List (Int × Int × Int)) : Nat → List Int
  | 0 => []
  | k + 1 => cstL d zs l k ++ if (gAt l k).1 = 2 then [labelFor (nth zs k) d (gAt l k).2.1] else []
theorem cstL_len (d : Int) (zs : List Int) (l : List (Int × Int × Int)) : ∀ k, (cstL d zs l k).length = cntG l 2 k
  | 0 => rfl
  | k + 1 => by rw [cstL, List.length_append, cstL_len d zs l k, cntG]; split <;> simp
def decL (zs : List Int) (o : List Int) : List Int := o.map fun w => bit0 (nth zs w.toNat)
end Go.Proofs.Ytodnahpegecpiaa

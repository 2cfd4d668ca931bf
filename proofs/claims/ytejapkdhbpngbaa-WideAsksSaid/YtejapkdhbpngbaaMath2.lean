/- Plain arithmetic of numbers with sign, and what the functions that ask a number hand back. No program in sight. -/
import Derived.Test.YtejapkdhbpngbaaMath
namespace Go.Proofs.Ytejapkdhbpngbaa

/-- The number that sign and limbs stand for. -/
def zv (neg : Bool) (l : List Nat) : Int := if neg then -(val l : Int) else (val l : Int)
/-- The number's one valid form, or ErrRange. -/
def outZ (z : Int) : (Bool × List Nat) × Int := outN (decide (z < 0)) z.natAbs
def wOf (z : Int) : Bool × List Nat := (decide (z < 0), limbs z.natAbs)
def cmpZ (a b : Int) : Int := if a < b then -1 else if b < a then 1 else 0
theorem outN_zv (neg : Bool) (n : Nat) : outN neg n = outZ (if neg then -(n : Int) else (n : Int)) := by
  unfold outZ
  cases neg
  · have : decide ((n : Int) < 0) = false := by rw [decide_eq_false_iff_not]; omega
    simp only [Bool.false_eq_true, if_false, this, Int.natAbs_natCast]
  · simp only [if_true, Int.natAbs_neg, Int.natAbs_natCast]
    unfold outN
    by_cases h : (0 : Nat) < n
    · rw [show decide (-(n : Int) < 0) = true by rw [decide_eq_true_iff]; omega]
    · rw [show n = 0 by omega]; rfl
theorem outZ_fit {z : Int} (h : (limbs z.natAbs).length ≤ 4096) : outZ z = (wOf z, 0) := by
  unfold outZ outN wOf
  rw [if_pos h]
  by_cases h0 : (0 : Nat) < z.natAbs
  · rw [decide_eq_true h0, Bool.and_true]
  · obtain rfl : z = 0 := by omega
    rfl
theorem good_wOf {neg : Bool} {l : List Nat} (hl : Lim l) (h : badL neg l = false) : (neg, l) = wOf (zv neg l) ∧ (limbs (zv neg l).natAbs).length ≤ 4096 := by
  obtain ⟨hc, h1, h2⟩ := good_canon hl h
  have hn : (zv neg l).natAbs = val l := by unfold zv; cases neg <;> simp
  rw [hn, canon_eq hc]
  refine ⟨?_, h1⟩
  unfold wOf
  rw [hn, canon_eq hc]
  congr 1
  unfold zv
  cases neg
  · simp
  · have := canon_val_pos hc (h2 rfl)
    simp; omega
theorem wOf_good (z : Int) (h : (limbs z.natAbs).length ≤ 4096) : badL (wOf z).1 (wOf z).2 = false := by
  unfold wOf badL
  have hc := canon_limbs z.natAbs
  have h1 : decide (4096 < (limbs z.natAbs).length) = false := by rw [decide_eq_false_iff_not]; omega
  simp only [h1, Bool.false_or, Bool.or_eq_false_iff, Bool.and_eq_false_iff, decide_eq_false_iff_not, beq_eq_false_iff_ne]
  constructor
  · by_cases h0 : 0 < (limbs z.natAbs).length
    · exact .inr (hc.2 h0)
    · exact .inl h0
  · by_cases h0 : (limbs z.natAbs).length = 0
    · right
      rw [List.length_eq_zero_iff, limbs_eq_nil] at h0
      omega
    · exact .inl h0
theorem zv_wOf (z : Int) : zv (wOf z).1 (wOf z).2 = z := by
  unfold wOf zv
  simp only [val_limbs, decide_eq_true_eq]
  split <;> omega

def negS (n : Bool) (l : List Nat) : (Bool × List Nat) × Int := if badL n l then ((false, []), 8) else outN (!n) (val l)
def absS (n : Bool) (l : List Nat) : (Bool × List Nat) × Int := if badL n l then ((false, []), 8) else outN false (val l)
def intS (n : Bool) (l : List Nat) : Int × Int :=
  if badL n l then (0, 8) else if -9223372036854775808 ≤ zv n l ∧ zv n l ≤ 9223372036854775807 then (zv n l, 0) else (0, 16)
def cmpS (n1 : Bool) (l1 : List Nat) (n2 : Bool) (l2 : List Nat) : Int × Int :=
  if badL n1 l1 || badL n2 l2 then (0, 8) else (cmpZ (zv n1 l1) (zv n2 l2), 0)
def bitLenN (n : Nat) : Nat := if n = 0 then 0 else n.log2 + 1
def bitsS (n : Bool) (l : List Nat) : Int × Int := if badL n l then (0, 8) else ((bitLenN (val l) : Nat), 0)
theorem chk2_eq (n1 : Bool) (l1 : List Nat) (n2 : Bool) (l2 : List Nat) : chk2 n1 l1 n2 l2 = if badL n1 l1 || badL n2 l2 then 8 else 0 := by
  unfold chk2 chk
  cases badL n1 l1 <;> simp

/-- As two numbers compare, limb by limb, with their signs. -/
def cmpW (n1 : Bool) (l1 : List Nat) (n2 : Bool) (l2 : List Nat) : Int :=
  if n1 && !n2 then -1 else if !n1 && n2 then 1 else if n1 then cmpL l2 l1 else cmpL l1 l2
theorem cmpW_good {n1 n2 : Bool} {l1 l2 : List Nat} (h1 : Lim l1) (h2 : Lim l2) (g1 : badL n1 l1 = false) (g2 : badL n2 l2 = false) : cmpW n1 l1 n2 l2 = cmpZ (zv n1 l1) (zv n2 l2) := by
  obtain ⟨k1, _, p1⟩ := good_canon h1 g1
  obtain ⟨k2, _, p2⟩ := good_canon h2 g2
  have q1 : n1 = true → 0 < val l1 := fun h => canon_val_pos k1 (p1 h)
  have q2 : n2 = true → 0 < val l2 := fun h => canon_val_pos k2 (p2 h)
  unfold cmpW
  rw [cmpL_canon k1 k2, cmpL_canon k2 k1]
  unfold zv cmpZ cmpN
  cases n1 <;> cases n2
  · simp
  · have := q2 rfl
    simp only [Bool.not_true, Bool.and_false, Bool.false_eq_true, if_false, Bool.not_false, Bool.and_true, if_true]
    rw [if_neg (by omega), if_pos (by omega)]
  · have := q1 rfl
    simp only [Bool.not_false, Bool.and_true, if_true, Bool.false_eq_true, if_false]
    rw [if_pos (by omega)]
  · simp only [Bool.not_true, Bool.and_false, Bool.false_eq_true, if_false, Bool.false_and, if_true, Int.neg_lt_neg_iff, Int.ofNat_lt]
theorem chk2_bad {n1 n2 : Bool} {l1 l2 : List Nat} (h : (badL n1 l1 || badL n2 l2) = true) : chk2 n1 l1 n2 l2 = 8 := by rw [chk2_eq, if_pos h]
theorem chk2_good {n1 n2 : Bool} {l1 l2 : List Nat} (h : (badL n1 l1 || badL n2 l2) = false) : chk2 n1 l1 n2 l2 = 0 := by rw [chk2_eq, if_neg (by simp [h])]

end Go.Proofs.Ytejapkdhbpngbaa

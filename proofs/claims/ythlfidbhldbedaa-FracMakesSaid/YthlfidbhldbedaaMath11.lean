/- What Gcd, Shift, Pow, Sqrt hand back, as plain functions. No program in sight. -/
import Derived.Test.YthlfidbhldbedaaMath
namespace Go.Proofs.Ythlfidbhldbedaa
def gcdS (n1 : Bool) (l1 : List Nat) (n2 : Bool) (l2 : List Nat) : (Bool × List Nat) × Int := if badL n1 l1 || badL n2 l2 then ((false, []), 8) else outN false (Nat.gcd (val l1) (val l2))

theorem gcd_step (x y : Nat) : Nat.gcd y (x % y) = Nat.gcd x y := by
  rw [Nat.gcd_comm y, ← Nat.gcd_rec, Nat.gcd_comm]

theorem gcd_end {x y : List Nat} (h : ¬ 0 < y.length) : Nat.gcd (val x) (val y) = val x := by
  obtain rfl : y = [] := List.eq_nil_of_length_eq_zero (by omega)
  simp [val]

theorem mod_len {x y : List Nat} (hy : Canon y) (h : 0 < y.length) : (limbs (val x % val y)).length ≤ y.length :=
  canon_len_le (canon_limbs _) hy (by rw [val_limbs]; exact Nat.le_of_lt (Nat.mod_lt _ (canon_val_pos hy h)))

def shS (n : Bool) (l : List Nat) (k : Int) : (Bool × List Nat) × Int :=
  if badL n l then ((false, []), 8) else if k < -131072 ∨ 131072 < k then ((false, []), 2) else
  if 0 ≤ k then outN n (val l * 2 ^ k.toNat) else outN n (val l / 2 ^ (-k).toNat + (if n && decide (0 < val l % 2 ^ (-k).toNat) then 1 else 0))

theorem shS_up {n : Bool} {l : List Nat} {k : Nat} (h : badL n l = false) (hk : k ≤ 131072) : shS n l (k : Int) = outN n (val l * 2 ^ k) := by
  unfold shS
  rw [h, if_neg (by simp), if_neg (by omega), if_pos (by omega), Int.toNat_natCast]

theorem shS_down {n : Bool} {l : List Nat} {k : Nat} (h : badL n l = false) (h0 : 0 < k) (hk : k ≤ 131072) : shS n l (-(k : Int)) = outN n (val l / 2 ^ k + (if n && decide (0 < val l % 2 ^ k) then 1 else 0)) := by
  unfold shS
  rw [h, if_neg (by simp), if_neg (by omega), if_neg (by omega), Int.neg_neg, Int.toNat_natCast]

theorem shS_arg {n : Bool} {l : List Nat} {k : Int} (h : badL n l = false) (hk : k < -131072 ∨ 131072 < k) : shS n l k = ((false, []), 2) := by
  unfold shS
  rw [h, if_neg (by simp), if_pos hk]

theorem val_zeros (k : Nat) (l : List Nat) : val (List.replicate k 0 ++ l) = 4294967296 ^ k * val l := by
  rw [val_append, val_replicate, List.length_replicate]; omega

theorem val_shl (l : List Nat) (k : Nat) (r : List Nat) (h : val r = val l * 2 ^ (k % 32)) : val (List.replicate (k / 32) 0 ++ r) = val l * 2 ^ k := by
  rw [val_zeros, h, ← Nat.mul_assoc, Nat.mul_comm (4294967296 ^ (k / 32)), Nat.mul_assoc, pow_split]

end Go.Proofs.Ythlfidbhldbedaa
/- Powers: what Pow hands back; a power that fits has all lesser powers fit. No program in sight. -/
namespace Go.Proofs.Ythlfidbhldbedaa
def fitZ (z : Int) : Prop := (limbs z.natAbs).length ≤ 4096

theorem fit_mono {a b : Int} (h : a.natAbs ≤ b.natAbs) (hb : fitZ b) : fitZ a := by
  unfold fitZ at *
  exact fit_le (canon_limbs b.natAbs) hb (by rw [val_limbs]; exact h)

theorem fit_one : fitZ 1 := by
  unfold fitZ
  exact Nat.le_trans (Nat.le_of_eq (show (limbs (1 : Int).natAbs).length = 1 by rfl)) (by omega)

theorem fit_pow {z : Int} {j k : Nat} (hjk : j ≤ k) (h : fitZ (z ^ k)) : fitZ (z ^ j) := by
  by_cases hz : z = 0
  · subst hz
    refine fit_mono (b := 1) ?_ fit_one
    rw [Int.natAbs_pow]
    cases j with
    | zero => simp
    | succ j => simp
  · refine fit_mono ?_ h
    rw [Int.natAbs_pow, Int.natAbs_pow]
    exact Nat.pow_le_pow_right (by omega) hjk

theorem outZ_not {z : Int} (h : ¬ fitZ z) : outZ z = ((false, []), 16) := by
  unfold outZ outN
  exact if_neg h

theorem outZ_is {z : Int} (h : fitZ z) : outZ z = (wOf z, 0) := outZ_fit h

theorem mulS_of {y : Int} {n : Bool} {l : List Nat} (hy : fitZ y) (hg : badL n l = false) : mulS (wOf y).1 (wOf y).2 n l = outZ (y * zv n l) := by
  unfold mulS
  rw [wOf_good y hy, hg, if_neg (by simp), zv_wOf]

theorem mulS_two {x y : Int} (hx : fitZ x) (hy : fitZ y) : mulS (wOf x).1 (wOf x).2 (wOf y).1 (wOf y).2 = outZ (x * y) := by
  rw [mulS_of hx (wOf_good y hy), zv_wOf]

def powS (n : Bool) (l : List Nat) (k : Int) : (Bool × List Nat) × Int :=
  if badL n l then ((false, []), 8) else if k < 0 ∨ 1000 < k then ((false, []), 2) else outZ (zv n l ^ k.toNat)

theorem powS_good {n : Bool} {l : List Nat} {k : Nat} (h : badL n l = false) (hk : k ≤ 1000) : powS n l (k : Int) = outZ (zv n l ^ k) := by
  unfold powS
  rw [h, if_neg (by simp), if_neg (by omega), Int.toNat_natCast]

theorem powS_arg {n : Bool} {l : List Nat} {k : Int} (h : badL n l = false) (hk : k < 0 ∨ 1000 < k) : powS n l k = ((false, []), 2) := by
  unfold powS
  rw [h, if_neg (by simp), if_pos hk]

theorem pow_bit (z : Int) (k i : Nat) : (z ^ (k / 2 ^ (i + 1)) * z ^ (k / 2 ^ (i + 1))) * (if k / 2 ^ i % 2 = 1 then z else 1) = z ^ (k / 2 ^ i) := by
  have h : k / 2 ^ (i + 1) = k / 2 ^ i / 2 := by rw [Nat.pow_succ, Nat.div_div_eq_div_mul]
  rw [h]
  generalize k / 2 ^ i = m
  have h2 : m = m / 2 + m / 2 + m % 2 := by omega
  conv => rhs; rw [h2, Int.pow_add, Int.pow_add]
  rcases Nat.mod_two_eq_zero_or_one m with h3 | h3 <;> rw [h3] <;> simp [Int.pow_succ]

end Go.Proofs.Ythlfidbhldbedaa
/- Square roots: what Sqrt hands back, and Newton's step from above. No program in sight. -/
namespace Go.Proofs.Ythlfidbhldbedaa
def isqF : Nat → Nat → Nat
  | 0, _ => 0
  | f + 1, a => if (f + 1) * (f + 1) ≤ a then f + 1 else isqF f a

/-- The square root, rounded down. -/
def isq (a : Nat) : Nat := isqF a a

theorem isqF_le (f a : Nat) : isqF f a * isqF f a ≤ a := by
  induction f with
  | zero => simp [isqF]
  | succ f ih =>
    unfold isqF
    split
    · assumption
    · exact ih

theorem isqF_gt (f a : Nat) (h : a < (f + 1) * (f + 1)) : a < (isqF f a + 1) * (isqF f a + 1) := by
  induction f with
  | zero => simpa [isqF] using h
  | succ f ih =>
    unfold isqF
    split
    · exact h
    · exact ih (by omega)

theorem isq_le (a : Nat) : isq a * isq a ≤ a := isqF_le a a

theorem isq_gt (a : Nat) : a < (isq a + 1) * (isq a + 1) := isqF_gt a a (by
  have : (a + 1) * 1 ≤ (a + 1) * (a + 1) := Nat.mul_le_mul_left _ (by omega)
  omega)

theorem isq_uniq {a r : Nat} (h1 : r * r ≤ a) (h2 : a < (r + 1) * (r + 1)) : isq a = r := by
  have h3 := isq_le a
  have h4 := isq_gt a
  rcases Nat.lt_trichotomy (isq a) r with h | h | h
  · have : (isq a + 1) * (isq a + 1) ≤ r * r := Nat.mul_le_mul h h
    omega
  · exact h
  · have : (r + 1) * (r + 1) ≤ isq a * isq a := Nat.mul_le_mul h h
    omega

/-- A step from above stays above. -/
theorem newton_above {a r : Nat} (hr : 0 < r) : a < ((a / r + r) / 2 + 1) * ((a / r + r) / 2 + 1) := by
  have h1 := Nat.div_add_mod a r
  have h2 := Nat.mod_lt a hr
  generalize a / r = q at *
  generalize a % r = t at *
  obtain ⟨s, hs⟩ : ∃ s, s = (q + r) / 2 := ⟨_, rfl⟩
  rw [← hs]
  have h3 : q + r + 1 ≤ 2 * (s + 1) := by omega
  -- 4 a < 4 r (q + 1) <= (q + r + 1)^2
  have h4 : a < r * (q + 1) := by rw [Nat.mul_add]; omega
  have h5 : 4 * (r * (q + 1)) ≤ (q + r + 1) * (q + r + 1) := by
    rcases Nat.le_total r (q + 1) with h | h
    · obtain ⟨d, hd⟩ := Nat.exists_eq_add_of_le h
      have e : q + r + 1 = 2 * r + d := by omega
      rw [e, hd]
      simp only [Nat.mul_add, Nat.add_mul]
      have := Nat.zero_le (d * d)
      have c1 : r * d = d * r := Nat.mul_comm _ _
      have c2 : 2 * r * (2 * r) = 4 * (r * r) := by rw [Nat.mul_mul_mul_comm]
      have c3 : 2 * r * d = 2 * (d * r) := by rw [Nat.mul_assoc, c1]
      have c4 : d * (2 * r) = 2 * (d * r) := by rw [Nat.mul_left_comm]
      omega
    · obtain ⟨d, hd⟩ := Nat.exists_eq_add_of_le h
      have e : q + r + 1 = 2 * (q + 1) + d := by omega
      rw [e, hd]
      generalize q + 1 = p
      simp only [Nat.mul_add, Nat.add_mul]
      have c2 : 2 * p * (2 * p) = 4 * (p * p) := by rw [Nat.mul_mul_mul_comm]
      have c3 : 2 * p * d = 2 * (d * p) := by rw [Nat.mul_assoc, Nat.mul_comm p d]
      have c4 : d * (2 * p) = 2 * (d * p) := by rw [Nat.mul_left_comm]
      omega
  have h6 : (q + r + 1) * (q + r + 1) ≤ (2 * (s + 1)) * (2 * (s + 1)) := Nat.mul_le_mul h3 h3
  have h7 : (2 * (s + 1)) * (2 * (s + 1)) = 4 * ((s + 1) * (s + 1)) := by rw [Nat.mul_mul_mul_comm]
  omega

/-- Where the step is not less, the root is found. -/
theorem newton_end {a r : Nat} (hr : 0 < r) (habove : a < (r + 1) * (r + 1)) (h : r ≤ (a / r + r) / 2) : isq a = r := by
  refine isq_uniq ?_ habove
  have h1 : r ≤ a / r := by omega
  exact (Nat.le_div_iff_mul_le hr).1 h1

theorem newton_pos {a r : Nat} (ha : 0 < a) (hr : 0 < r) : 0 < (a / r + r) / 2 := by
  rcases Nat.lt_or_ge a r with h | h
  · rw [Nat.div_eq_of_lt h]; omega
  · have : 0 < a / r := Nat.div_pos h hr
    omega

/-- The first guess is above. -/
theorem newton_start {a n : Nat} (h : a < 2 ^ n) : a < (2 ^ ((n + 1) / 2) + 1) * (2 ^ ((n + 1) / 2) + 1) := by
  have h1 : 2 ^ n ≤ 2 ^ ((n + 1) / 2) * 2 ^ ((n + 1) / 2) := by
    rw [← Nat.pow_add]
    exact Nat.pow_le_pow_right (by omega) (by omega)
  have h2 : 2 ^ ((n + 1) / 2) * 2 ^ ((n + 1) / 2) ≤ (2 ^ ((n + 1) / 2) + 1) * (2 ^ ((n + 1) / 2) + 1) := Nat.mul_le_mul (by omega) (by omega)
  omega

def sqrtS (n : Bool) (l : List Nat) : (Bool × List Nat) × Int := if badL n l then ((false, []), 8) else if n then ((false, []), 2) else outN false (isq (val l))

end Go.Proofs.Ythlfidbhldbedaa

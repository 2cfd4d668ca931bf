/- What Gcd, Shift, Pow, Sqrt hand back, as plain functions. No program in sight. -/
import Derived.Test.YtmelbahbjdogdaaGreatDoorMath
import Derived.Lib.TrimByte
namespace Go.Proofs.YtmelbahbjdogdaaGreatDoor
def gcdS (n1 : Bool) (l1 : List Nat) (n2 : Bool) (l2 : List Nat) : (Bool × List Nat) × Int := if badL n1 l1 || badL n2 l2 then ((false, []), 8) else outN false (Nat.gcd (val l1) (val l2))

theorem gcd_step (x y : Nat) : Nat.gcd y (x % y) = Nat.gcd x y := by
  rw [Nat.gcd_comm y, ← Nat.gcd_rec, Nat.gcd_comm]

theorem gcd_end {x y : List Nat} (h : ¬ 0 < y.length) : Nat.gcd (val x) (val y) = val x := by
  obtain rfl : y = [] := List.eq_nil_of_length_eq_zero (by omega)
  simp [val]

theorem mod_len {x y : List Nat} (hy : Canon y) (h : 0 < y.length) : (limbs (val x % val y)).length ≤ y.length :=
  canon_len_le (canon_limbs _) hy (by rw [val_limbs]; exact Nat.le_of_lt (Nat.mod_lt _ (canon_val_pos hy h)))

end Go.Proofs.YtmelbahbjdogdaaGreatDoor
/- Powers: what Pow hands back; a power that fits has all lesser powers fit. No program in sight. -/
namespace Go.Proofs.YtmelbahbjdogdaaGreatDoor
def fitZ (z : Int) : Prop := (limbs z.natAbs).length ≤ 4096

theorem fit_mono {a b : Int} (h : a.natAbs ≤ b.natAbs) (hb : fitZ b) : fitZ a := by
  unfold fitZ at *
  exact fit_le (canon_limbs b.natAbs) hb (by rw [val_limbs]; exact h)

theorem fit_one : fitZ 1 := by
  unfold fitZ
  exact Nat.le_trans (Nat.le_of_eq (show (limbs (1 : Int).natAbs).length = 1 by rfl)) (by omega)

theorem fit_pow {z : Int} {j k : Nat} (hjk : j ≤ k) (h : fitZ (z ^ k)) : fitZ (z ^ j) := by
  by_cases hz : z = 0
  · subst hz
    refine fit_mono (b := 1) ?_ fit_one
    rw [Int.natAbs_pow]
    cases j with
    | zero => simp
    | succ j => simp
  · refine fit_mono ?_ h
    rw [Int.natAbs_pow, Int.natAbs_pow]
    exact Nat.pow_le_pow_right (by omega) hjk

theorem outZ_not {z : Int} (h : ¬ fitZ z) : outZ z = ((false, []), 16) := by
  unfold outZ outN
  exact if_neg h

theorem outZ_is {z : Int} (h : fitZ z) : outZ z = (wOf z, 0) := outZ_fit h

theorem mulS_of {y : Int} {n : Bool} {l : List Nat} (hy : fitZ y) (hg : badL n l = false) : mulS (wOf y).1 (wOf y).2 n l = outZ (y * zv n l) := by
  unfold mulS
  rw [wOf_good y hy, hg, if_neg (by simp), zv_wOf]

def powS (n : Bool) (l : List Nat) (k : Int) : (Bool × List Nat) × Int :=
  if badL n l then ((false, []), 8) else if k < 0 ∨ 1000 < k then ((false, []), 2) else outZ (zv n l ^ k.toNat)

theorem powS_good {n : Bool} {l : List Nat} {k : Nat} (h : badL n l = false) (hk : k ≤ 1000) : powS n l (k : Int) = outZ (zv n l ^ k) := by
  unfold powS
  rw [h, if_neg (by simp), if_neg (by omega), Int.toNat_natCast]

theorem powS_arg {n : Bool} {l : List Nat} {k : Int} (h : badL n l = false) (hk : k < 0 ∨ 1000 < k) : powS n l k = ((false, []), 2) := by
  unfold powS
  rw [h, if_neg (by simp), if_pos hk]

end Go.Proofs.YtmelbahbjdogdaaGreatDoor
/- Square roots: what Sqrt hands back, and Newton's step from above. No program in sight. -/
namespace Go.Proofs.YtmelbahbjdogdaaGreatDoor
end Go.Proofs.YtmelbahbjdogdaaGreatDoor
/- What the functions of numbers hand back, said of whole numbers. No program in sight. -/
namespace Go.Proofs.YtmelbahbjdogdaaGreatDoor
/-- Sign and limbs are a valid form of z. -/
def VZ (n : Bool) (l : List Nat) (z : Int) : Prop := (n, l) = wOf z ∧ fitZ z

theorem vz_of {n : Bool} {l : List Nat} (hl : Lim l) (h : badL n l = false) : VZ n l (zv n l) := good_wOf hl h

theorem vz_wOf {z : Int} (h : fitZ z) : VZ (wOf z).1 (wOf z).2 z := ⟨rfl, h⟩

theorem vz_mk {n : Bool} {l : List Nat} {z : Int} (e : (n, l) = wOf z) (h : fitZ z) : VZ n l z := ⟨e, h⟩

section
variable {n n1 n2 : Bool} {l l1 l2 : List Nat} {x y z : Int}
theorem VZ.good (h : VZ n l z) : badL n l = false := by
  obtain ⟨e, f⟩ := h
  obtain ⟨rfl, rfl⟩ := Prod.mk.inj e
  exact wOf_good z f

theorem VZ.val_eq (h : VZ n l z) : val l = z.natAbs := by
  obtain ⟨e, f⟩ := h
  obtain ⟨rfl, rfl⟩ := Prod.mk.inj e
  exact val_limbs _

theorem VZ.zv_eq (h : VZ n l z) : zv n l = z := by
  obtain ⟨e, f⟩ := h
  obtain ⟨rfl, rfl⟩ := Prod.mk.inj e
  exact zv_wOf z

theorem VZ.canon (h : VZ n l z) : Canon l := by
  obtain ⟨e, f⟩ := h
  obtain ⟨rfl, rfl⟩ := Prod.mk.inj e
  exact canon_limbs _

theorem VZ.neg_eq (h : VZ n l z) : n = decide (z < 0) := by
  obtain ⟨e, f⟩ := h
  obtain ⟨rfl, rfl⟩ := Prod.mk.inj e
  rfl

theorem VZ.limbs_eq (h : VZ n l z) : l = limbs z.natAbs := by
  obtain ⟨e, f⟩ := h
  obtain ⟨rfl, rfl⟩ := Prod.mk.inj e
  rfl

theorem VZ.len (h : VZ n l z) : l.length ≤ 4096 := by rw [h.limbs_eq]; exact h.2

theorem VZ.zero (h : VZ n l z) : l.length = 0 ↔ z = 0 := by
  rw [h.limbs_eq, List.length_eq_zero_iff, limbs_eq_nil]; omega

theorem VZ.pos (h : VZ n l z) : 0 < l.length ↔ z ≠ 0 := by
  rw [Nat.pos_iff_ne_zero, ne_eq, h.zero]

theorem VZ.chk (h : VZ n l z) : chk n l = 0 := chk_good h.good

theorem VZ.inj (h : VZ n1 l1 z) (k : VZ n2 l2 z) : (n1, l1) = (n2, l2) := h.1.trans k.1.symm

theorem VZ.lt (h : VZ n l z) : z.natAbs < 4294967296 ^ l.length := by
  have := val_lt h.canon.1
  rwa [h.val_eq] at this

theorem VZ.lt_of {k : Nat} (h : VZ n l z) (hk : l.length ≤ k) : z.natAbs < 4294967296 ^ k := Nat.lt_of_lt_of_le h.lt (Nat.pow_le_pow_right (by omega) hk)

theorem fit_of_lt {k : Nat} (h : z.natAbs < 4294967296 ^ k) (hk : k ≤ 4096) : fitZ z := Nat.le_trans (limbs_len_le.2 h) hk

theorem len_of_lt {k : Nat} (h : VZ n l z) (hk : z.natAbs < 4294967296 ^ k) : l.length ≤ k := by rw [h.limbs_eq]; exact limbs_len_le.2 hk

theorem outN_false (n : Nat) : outN false n = outZ (n : Int) := by rw [outN_zv]; rfl

theorem addS_z (h1 : VZ n1 l1 x) (h2 : VZ n2 l2 y) (hf : fitZ (x + y)) : addS n1 l1 n2 l2 = (wOf (x + y), 0) := by
  unfold addS
  rw [h1.good, h2.good, if_neg (by simp), h1.zv_eq, h2.zv_eq, outZ_is hf]

theorem subS_z (h1 : VZ n1 l1 x) (h2 : VZ n2 l2 y) (hf : fitZ (x - y)) : subS n1 l1 n2 l2 = (wOf (x - y), 0) := by
  unfold subS
  rw [h1.good, h2.good, if_neg (by simp), h1.zv_eq, h2.zv_eq, outZ_is hf]

theorem mulS_z (h1 : VZ n1 l1 x) (h2 : VZ n2 l2 y) (hf : fitZ (x * y)) : mulS n1 l1 n2 l2 = (wOf (x * y), 0) := by
  unfold mulS
  rw [h1.good, h2.good, if_neg (by simp), h1.zv_eq, h2.zv_eq, outZ_is hf]

theorem subS_out (h1 : VZ n1 l1 x) (h2 : VZ n2 l2 y) : subS n1 l1 n2 l2 = outZ (x - y) := by
  unfold subS
  rw [h1.good, h2.good, if_neg (by simp), h1.zv_eq, h2.zv_eq]

theorem mulS_out (h1 : VZ n1 l1 x) (h2 : VZ n2 l2 y) : mulS n1 l1 n2 l2 = outZ (x * y) := by
  unfold mulS
  rw [h1.good, h2.good, if_neg (by simp), h1.zv_eq, h2.zv_eq]

theorem absS_z (h : VZ n l x) : absS n l = (wOf x.natAbs, 0) := by
  unfold absS
  rw [h.good, if_neg (by simp), outN_false, h.val_eq, outZ_is (fit_mono (b := x) (by simp) h.2)]

theorem negS_z (h : VZ n l x) : negS n l = (wOf (-x), 0) := by
  unfold negS
  have e : (if !n then -((val l : Nat) : Int) else ((val l : Nat) : Int)) = -x := by
    rw [← h.zv_eq]; unfold zv; cases n <;> simp
  rw [h.good, if_neg (by simp), outN_zv, e, outZ_is (by unfold fitZ; rw [Int.natAbs_neg]; exact h.2)]

theorem cmpW_z (h1 : VZ n1 l1 x) (h2 : VZ n2 l2 y) : cmpW n1 l1 n2 l2 = cmpZ x y := by
  rw [cmpW_good h1.canon.1 h2.canon.1 h1.good h2.good, h1.zv_eq, h2.zv_eq]

theorem cmpS_z (h1 : VZ n1 l1 x) (h2 : VZ n2 l2 y) : cmpS n1 l1 n2 l2 = (cmpZ x y, 0) := by
  unfold cmpS
  rw [h1.good, h2.good, if_neg (by simp), h1.zv_eq, h2.zv_eq]

theorem gcdS_z (h1 : VZ n1 l1 x) (h2 : VZ n2 l2 y) (hf : fitZ (Int.gcd x y)) : gcdS n1 l1 n2 l2 = (wOf (Int.gcd x y), 0) := by
  unfold gcdS
  rw [h1.good, h2.good, if_neg (by simp), outN_false, h1.val_eq, h2.val_eq]
  exact outZ_is hf

theorem fit_gcd (h1 : fitZ x) (h2 : fitZ y) : fitZ (Int.gcd x y) := by
  by_cases hx : x = 0
  · subst hx
    rw [Int.gcd_zero_left]
    exact fit_mono (by simp) h2
  · refine fit_mono (b := x) ?_ h1
    rw [Int.natAbs_natCast]
    exact Nat.le_of_dvd (by omega) (Int.gcd_dvd_natAbs_left x y)

theorem vz_gcd (h1 : VZ n1 l1 x) (h2 : VZ n2 l2 y) : gcdS n1 l1 n2 l2 = (wOf (Int.gcd x y), 0) := gcdS_z h1 h2 (fit_gcd h1.2 h2.2)

/-- The quotient, rounded down, and the remainder with the divisor's sign. -/
theorem div_uniq {q r : Int} (hy : y ≠ 0) (h : q * y + r = x) (hr : (0 < y → 0 ≤ r ∧ r < y) ∧ (y < 0 → r ≤ 0 ∧ y < r)) : q = x.fdiv y ∧ r = x.fmod y := by
  have h1 := Int.mul_fdiv_add_fmod x y
  have key : ∀ a : Int, a * y + r = x → ∀ b s : Int, b * y + s = x → (0 < y → 0 ≤ s ∧ s < y) ∧ (y < 0 → s ≤ 0 ∧ y < s) → a = b := by
    intro a ha b s hb hs
    have e : (a - b) * y = s - r := by rw [Int.sub_mul]; omega
    rcases Int.lt_trichotomy (a - b) 0 with h0 | h0 | h0
    · exfalso
      rcases Int.lt_or_gt_of_ne hy with hy0 | hy0
      · have := hr.2 hy0; have := hs.2 hy0
        have : (a - b) * y ≥ (-1) * y := Int.mul_le_mul_of_nonpos_right (by omega) (by omega)
        omega
      · have := hr.1 hy0; have := hs.1 hy0
        have : (a - b) * y ≤ (-1) * y := Int.mul_le_mul_of_nonneg_right (by omega) (by omega)
        omega
    · omega
    · exfalso
      rcases Int.lt_or_gt_of_ne hy with hy0 | hy0
      · have := hr.2 hy0; have := hs.2 hy0
        have : (a - b) * y ≤ 1 * y := Int.mul_le_mul_of_nonpos_right (by omega) (by omega)
        omega
      · have := hr.1 hy0; have := hs.1 hy0
        have : (a - b) * y ≥ 1 * y := Int.mul_le_mul_of_nonneg_right (by omega) (by omega)
        omega
  have hm : (0 < y → 0 ≤ x.fmod y ∧ x.fmod y < y) ∧ (y < 0 → x.fmod y ≤ 0 ∧ y < x.fmod y) := by
    constructor
    · intro h0
      exact ⟨Int.fmod_nonneg_of_pos x h0, Int.fmod_lt_of_pos x h0⟩
    · intro h0
      have e : (-x).fmod (-y) = -x.fmod y := Int.neg_fmod_neg x y
      have h2 := Int.fmod_nonneg_of_pos (-x) (show 0 < -y by omega)
      have h3 := Int.fmod_lt_of_pos (-x) (show 0 < -y by omega)
      omega
  have hq := key q h (x.fdiv y) (x.fmod y) (by rw [Int.mul_comm]; exact h1) hm
  exact ⟨hq, by rw [hq, Int.mul_comm] at h; omega⟩

theorem dmS_z (h1 : VZ n1 l1 x) (h2 : VZ n2 l2 y) (hy : y ≠ 0) : dmS n1 l1 n2 l2 = (wOf (x.fdiv y), wOf (x.fmod y), 0) := by
  have hl : 0 < l2.length := h2.pos.2 hy
  have hv : 0 < val l2 := canon_val_pos h2.canon hl
  obtain ⟨e1, e2⟩ := dm_law (n1 := n1) (n2 := n2) (l1 := l1) hv
  have e3 : 0 ≤ (drN n1 (val l1) n2 (val l2) : Int) := by omega
  unfold dmS
  rw [h1.good, h2.good, if_neg (by simp), if_neg (by omega)]
  have hva := h2.val_eq
  rw [h1.zv_eq, h2.zv_eq] at e1
  have hn := h2.neg_eq
  have hr : (0 < y → 0 ≤ drZ n1 (val l1) n2 (val l2) ∧ drZ n1 (val l1) n2 (val l2) < y) ∧ (y < 0 → drZ n1 (val l1) n2 (val l2) ≤ 0 ∧ y < drZ n1 (val l1) n2 (val l2)) := by
    unfold drZ
    constructor
    · intro h0
      have hf : ¬ (n2 = true) := by rw [hn, decide_eq_true_eq]; omega
      rw [if_neg hf]
      omega
    · intro h0
      have hf : n2 = true := by rw [hn, decide_eq_true_eq]; omega
      rw [if_pos hf]
      omega
  obtain ⟨a, b⟩ := div_uniq hy e1 hr
  rw [a, b]

theorem fit_fdiv (h : fitZ x) : fitZ (x.fdiv y) := by
  by_cases hy : y = 0
  · subst hy; rw [Int.fdiv_zero]; exact fit_mono (by simp) h
  · refine fit_mono (b := x) ?_ h
    have key : ∀ a b : Int, 0 < b → (a.fdiv b).natAbs ≤ a.natAbs := fun a b hb => by
      rw [Int.fdiv_eq_ediv_of_nonneg a (by omega)]
      exact Int.natAbs_ediv_le_natAbs a b
    rcases Int.lt_or_gt_of_ne hy with h0 | h0
    · have := key (-x) (-y) (by omega)
      rwa [Int.neg_fdiv_neg, Int.natAbs_neg] at this
    · exact key x y h0

theorem fmod_bd (hy : y ≠ 0) : (x.fmod y).natAbs < y.natAbs := by
  rcases Int.lt_or_gt_of_ne hy with h0 | h0
  · have e : (-x).fmod (-y) = -x.fmod y := Int.neg_fmod_neg x y
    have h2 := Int.fmod_nonneg_of_pos (-x) (show 0 < -y by omega)
    have h3 := Int.fmod_lt_of_pos (-x) (show 0 < -y by omega)
    omega
  · have h2 := Int.fmod_nonneg_of_pos x h0
    have h3 := Int.fmod_lt_of_pos x h0
    omega

theorem fit_fmod (hy : y ≠ 0) (h : fitZ y) : fitZ (x.fmod y) := fit_mono (Nat.le_of_lt (fmod_bd hy)) h

end
end Go.Proofs.YtmelbahbjdogdaaGreatDoor
/- What the laws' own helpers answer. No program in sight. -/
namespace Go.Proofs.YtmelbahbjdogdaaGreatDoor
theorem lt_sum {a b k : Nat} (ha : a < 4294967296 ^ k) (hb : b < 4294967296 ^ k) : a + b < 4294967296 ^ (k + 1) := by
  rw [Nat.pow_succ]; omega

end Go.Proofs.YtmelbahbjdogdaaGreatDoor
/- What the law WideRoots needs of square roots, shifts and greatest common divisors. No program in sight. -/
namespace Go.Proofs.YtmelbahbjdogdaaGreatDoor
section
variable {n n1 n2 : Bool} {l l1 l2 : List Nat} {x y z : Int}
theorem mul_lt {a b i j : Nat} (ha : a < 4294967296 ^ i) (hb : b < 4294967296 ^ j) : a * b < 4294967296 ^ (i + j) := by
  rw [Nat.pow_add]
  exact Nat.mul_lt_mul'' ha hb

theorem powS_z {k : Nat} (h : VZ n l x) (hk : k ≤ 1000) (hf : fitZ (x ^ k)) : powS n l (k : Int) = (wOf (x ^ k), 0) := by
  rw [powS_good h.good hk, h.zv_eq, outZ_is hf]

end
end Go.Proofs.YtmelbahbjdogdaaGreatDoor
/- Decimal digits as bytes. No program in sight. -/
namespace Go.Proofs.YtmelbahbjdogdaaGreatDoor
/-- The digit of a number below ten. -/
def dg (k : Nat) : UInt8 := UInt8.ofNat (48 + k % 10)

theorem dg_toNat (k : Nat) : (dg k).toNat = 48 + k % 10 := by
  unfold dg
  rw [UInt8.toNat_ofNat']
  omega

/-- The value of digits, the lowest first. -/
def dl : List UInt8 → Nat
  | [] => 0
  | c :: t => (c.toNat - 48) + 10 * dl t

def Dig (l : List UInt8) : Prop := ∀ c ∈ l, 48 ≤ c.toNat ∧ c.toNat ≤ 57

def digB (l : List UInt8) : Bool := l.all fun c => decide (48 ≤ c.toNat) && decide (c.toNat ≤ 57)

theorem digB_iff {l : List UInt8} : digB l = true ↔ Dig l := by
  unfold digB Dig
  simp

/-- The digits of a number, the lowest first. -/
def decF : Nat → Nat → List UInt8
  | 0, _ => []
  | f + 1, n => if n = 0 then [] else dg n :: decF f (n / 10)

def decR (n : Nat) : List UInt8 := decF n n

/-- .. the highest first. -/
def decS (n : Nat) : List UInt8 := (decR n).reverse

theorem decF_fuel : ∀ (f n : Nat), n ≤ f → decF f n = decF (f + 1) n
  | 0, n, h => by
    obtain rfl : n = 0 := by omega
    simp [decF]
  | f + 1, n, h => by
    unfold decF
    by_cases h0 : n = 0
    · rw [if_pos h0, if_pos h0]
    · rw [if_neg h0, if_neg h0, decF_fuel f (n / 10) (by omega)]

theorem decF_ge (n : Nat) : ∀ k, decF (n + k) n = decR n
  | 0 => rfl
  | k + 1 => by rw [← Nat.add_assoc, ← decF_fuel (n + k) n (by omega), decF_ge n k]

theorem decF_eq {f n : Nat} (h : n ≤ f) : decF f n = decR n := by
  obtain ⟨k, rfl⟩ := Nat.exists_eq_add_of_le h
  exact decF_ge n k

theorem decR_zero : decR 0 = [] := rfl

theorem decR_pos {n : Nat} (h : 0 < n) : decR n = dg n :: decR (n / 10) := by
  obtain ⟨m, rfl⟩ : ∃ m, n = m + 1 := ⟨n - 1, by omega⟩
  show decF (m + 1) (m + 1) = _
  rw [decF, if_neg (by omega), decF_eq (by omega)]

theorem dl_dec (n : Nat) : dl (decR n) = n := by
  induction n using Nat.strongRecOn with
  | ind n ih =>
    by_cases h : n = 0
    · subst h; rfl
    · rw [decR_pos (by omega), dl, ih _ (by omega), dg_toNat]
      omega

theorem dig_dec (n : Nat) : Dig (decR n) := by
  induction n using Nat.strongRecOn with
  | ind n ih =>
    by_cases h : n = 0
    · subst h; intro c hc; cases hc
    · rw [decR_pos (by omega)]
      intro c hc
      rcases List.mem_cons.1 hc with rfl | hc
      · rw [dg_toNat]; omega
      · exact ih _ (by omega) c hc

theorem dig_cons {c : UInt8} {t : List UInt8} : Dig (c :: t) ↔ (48 ≤ c.toNat ∧ c.toNat ≤ 57) ∧ Dig t := by
  constructor
  · exact fun h => ⟨h c (by simp), fun x hx => h x (by simp [hx])⟩
  · rintro ⟨h, k⟩ x hx
    rcases List.mem_cons.1 hx with rfl | hx
    · exact h
    · exact k x hx

theorem dig_append {a b : List UInt8} (h : Dig a) (k : Dig b) : Dig (a ++ b) := by
  intro x hx
  rcases List.mem_append.1 hx with hx | hx
  · exact h x hx
  · exact k x hx

theorem dig_nil : Dig [] := fun c hc => by cases hc

theorem dig_rev {l : List UInt8} (h : Dig l) : Dig l.reverse := fun c hc => h c (List.mem_reverse.1 hc)

theorem dl_append (a b : List UInt8) : dl (a ++ b) = dl a + 10 ^ a.length * dl b := by
  induction a with
  | nil => simp [dl]
  | cons c t ih =>
    simp only [List.cons_append, dl, ih, List.length_cons, Nat.pow_succ, Nat.mul_add]
    rw [Nat.mul_comm (10 ^ t.length) 10, Nat.mul_assoc]
    omega

theorem dl_snoc (a : List UInt8) (k : Nat) : dl (a ++ [dg k]) = dl a + 10 ^ a.length * (k % 10) := by
  rw [dl_append]
  simp [dl, dg_toNat]

/-- Digits without zeros at the top are the number's. -/
theorem dec_eq : ∀ {l : List UInt8}, Dig l → (∀ c, l.getLast? = some c → c ≠ 48) → l = decR (dl l)
  | [], _, _ => rfl
  | c :: t, hd, ht => by
    have h1 := (dig_cons.1 hd).1
    have h2 := (dig_cons.1 hd).2
    have h3 : ∀ x, t.getLast? = some x → x ≠ 48 := by
      intro x hx
      apply ht
      cases t with
      | nil => simp at hx
      | cons y t => rw [List.getLast?_cons_cons]; exact hx
    have ih := dec_eq h2 h3
    have hpos : 0 < dl (c :: t) := by
      rw [dl]
      cases t with
      | nil =>
        have := ht c rfl
        have h4 : c.toNat ≠ 48 := fun e => this (UInt8.toNat_inj.1 e)
        omega
      | cons y t =>
        have : dl (y :: t) ≠ 0 := by
          intro e
          rw [e, decR_zero] at ih
          cases ih
        omega
    have hm : dl (c :: t) % 10 = c.toNat - 48 := by rw [dl]; omega
    have hq : dl (c :: t) / 10 = dl t := by rw [dl]; omega
    rw [decR_pos hpos, hq, ← ih]
    congr 1
    apply UInt8.toNat_inj.1
    rw [dg_toNat, hm]
    omega

/-- Zeros at the top are dropped. -/
theorem dec_drop : ∀ {l : List UInt8}, Dig l.reverse → l.dropWhile (· == 48) = decS (dl l.reverse)
  | [], _ => rfl
  | c :: t, hd => by
    rw [List.reverse_cons] at hd
    have h2 : Dig t.reverse := fun x hx => hd x (by simp [List.mem_reverse.1 hx])
    by_cases h : c = 48
    · subst h
      rw [List.dropWhile_cons_of_pos (by rfl), dec_drop h2, List.reverse_cons, dl_append]
      simp [dl]
    · rw [List.dropWhile_cons_of_neg (by simpa using h)]
      unfold decS
      rw [← dec_eq (by rw [List.reverse_cons]; exact hd) (fun x hx => by
        rw [List.reverse_cons, List.getLast?_append] at hx
        simp at hx
        exact hx ▸ h), List.reverse_reverse]

theorem dec_top (n : Nat) : ∀ c, (decR n).getLast? = some c → c ≠ 48 := by
  induction n using Nat.strongRecOn with
  | ind n ih =>
    by_cases h : n = 0
    · subst h; intro c hc; cases hc
    · rw [decR_pos (by omega)]
      intro c hc
      by_cases h2 : n / 10 = 0
      · rw [h2, decR_zero] at hc
        simp at hc
        subst hc
        intro e
        have := congrArg UInt8.toNat e
        rw [dg_toNat] at this
        have h3 : (48 : UInt8).toNat = 48 := rfl
        omega
      · refine ih (n / 10) (by omega) c ?_
        rw [decR_pos (show 0 < n / 10 by omega)] at hc ⊢
        rwa [List.getLast?_cons_cons] at hc

theorem decS_nil {n : Nat} : decS n = [] ↔ n = 0 := by
  unfold decS
  constructor
  · intro h
    have h2 : decR n = [] := List.reverse_eq_nil_iff.1 h
    have := dl_dec n
    rw [h2] at this
    exact this.symm
  · rintro rfl; rfl

/-- The value of digits, the highest first. -/
def dv (l : List UInt8) : Nat := dl l.reverse

theorem dv_snoc (l : List UInt8) (c : UInt8) : dv (l ++ [c]) = 10 * dv l + (c.toNat - 48) := by
  unfold dv
  rw [List.reverse_append]
  simp [dl]
  omega

theorem dv_dec (n : Nat) : dv (decS n) = n := by unfold dv decS; rw [List.reverse_reverse, dl_dec]

theorem dl_lt : ∀ {l : List UInt8}, Dig l → dl l < 10 ^ l.length
  | [], _ => by simp [dl]
  | c :: t, h => by
    have h1 := (dig_cons.1 h).1
    have := dl_lt (dig_cons.1 h).2
    rw [dl, List.length_cons, Nat.pow_succ]
    omega

theorem dv_lt {l : List UInt8} (h : Dig l) : dv l < 10 ^ l.length := by
  have := dl_lt (dig_rev h)
  rwa [List.length_reverse] at this

theorem ten_pow_lt {k m : Nat} (h : k ≤ 3000) (hm : m = 400) : 10 ^ k < 4294967296 ^ m := by
  have h1 : 10 ^ k ≤ 2 ^ (4 * k) := by rw [Nat.pow_mul]; exact Nat.pow_le_pow_left (by decide) k
  have h4 : 4294967296 ^ m = 2 ^ (32 * m) := by rw [Nat.pow_mul]
  rw [h4]
  exact Nat.lt_of_le_of_lt h1 (Nat.pow_lt_pow_right (by omega) (by omega))

/-- A string of at most 3000 digits is a number of at most 400 limbs. -/
theorem dv_limbs {l : List UInt8} (h : Dig l) (hl : l.length ≤ 3000) : (limbs (dv l)).length ≤ 400 := by
  obtain ⟨m, hm⟩ : ∃ m, m = 400 := ⟨_, rfl⟩
  rw [← hm]
  exact limbs_len_le.2 (Nat.lt_trans (dv_lt h) (ten_pow_lt hl hm))

/-- What Text hands back. -/
def textZ (n : Bool) (v : Nat) : List UInt8 := if v = 0 then [48] else if n then 45 :: decS v else decS v

def textS (n : Bool) (l : List Nat) : List UInt8 × Int := if badL n l then ([], 8) else (textZ n (val l), 0)

/-- What Parse hands back. -/
def parOk (s : List UInt8) : Bool := !(Lib.trimPrefix s [45]).isEmpty && (!((Lib.trimPrefix s [45]).head? == some 48) || s == [48]) && digB (Lib.trimPrefix s [45])

def parseS (s : List UInt8) : (Bool × List Nat) × Int := if parOk s then outN (Lib.hasPrefix s [45]) (dv (Lib.trimPrefix s [45])) else ((false, []), 12)

end Go.Proofs.YtmelbahbjdogdaaGreatDoor
/- Text and Parse are inverse. No program in sight. -/
namespace Go.Proofs.YtmelbahbjdogdaaGreatDoor
open Go.Lib
theorem decR_len (n : Nat) : 0 < n → 10 ^ ((decR n).length - 1) ≤ n := by
  induction n using Nat.strongRecOn with
  | ind n ih =>
    intro h
    rw [decR_pos h, List.length_cons, Nat.add_sub_cancel]
    by_cases h2 : n / 10 = 0
    · rw [h2, decR_zero]; simp; omega
    · have h3 := ih (n / 10) (by omega) (by omega)
      obtain ⟨m, hm⟩ : ∃ m, (decR (n / 10)).length = m + 1 := by
        rw [decR_pos (show 0 < n / 10 by omega)]; exact ⟨_, rfl⟩
      rw [hm, Nat.add_sub_cancel] at h3
      rw [hm, Nat.pow_succ]
      omega

/-- A number below 2^e has few digits. -/
theorem dig_count {n e : Nat} (h : n < 2 ^ e) : (decR n).length ≤ 10 * (e / 33) + 11 := by
  rcases Nat.eq_zero_or_pos n with rfl | hp
  · rw [decR_zero]; simp
  · have h1 := decR_len n hp
    generalize (decR n).length = m at *
    rcases Nat.lt_or_ge (10 * (e / 33) + 11) m with hm | hm
    · exfalso
      have h2 : 10 ^ (10 * (e / 33 + 1)) ≤ 10 ^ (m - 1) := Nat.pow_le_pow_right (by omega) (by omega)
      have h3 : (2 : Nat) ^ (33 * (e / 33 + 1)) ≤ 10 ^ (10 * (e / 33 + 1)) := by
        rw [Nat.pow_mul, Nat.pow_mul]
        exact Nat.pow_le_pow_left (by decide) _
      have h4 : (2 : Nat) ^ e ≤ 2 ^ (33 * (e / 33 + 1)) := Nat.pow_le_pow_right (by omega) (by omega)
      omega
    · exact hm

theorem decS_len (n : Nat) : (decS n).length = (decR n).length := by unfold decS; rw [List.length_reverse]

theorem text_len {n : Bool} {v e : Nat} (h : v < 2 ^ e) : (textZ n v).length ≤ 10 * (e / 33) + 12 := by
  have := dig_count h
  unfold textZ
  split
  · simp
  · split
    · rw [List.length_cons, decS_len]; omega
    · rw [decS_len]; omega

theorem decS_head {n : Nat} (h : 0 < n) : ∃ c t, decS n = c :: t ∧ c ≠ 48 ∧ 48 ≤ c.toNat ∧ c.toNat ≤ 57 := by
  unfold decS
  have h1 : decR n ≠ [] := by rw [decR_pos h]; simp
  have h2 := dec_top n _ (List.getLast?_eq_some_getLast h1)
  have h3 := dig_dec n _ (List.getLast_mem h1)
  refine ⟨(decR n).getLast h1, (decR n).dropLast.reverse, ?_, h2, h3⟩
  conv => lhs; rw [← List.dropLast_concat_getLast h1]
  rw [List.reverse_append]
  rfl

theorem decS_dig (n : Nat) : digB (decS n) = true := digB_iff.2 (dig_rev (dig_dec n))

theorem hp_ne {c : UInt8} {t : List UInt8} (h : c ≠ 45) : hasPrefix (c :: t) [45] = false := by
  cases h2 : hasPrefix (c :: t) [45] with
  | false => rfl
  | true => exact absurd (by simp [hasPrefix, List.isPrefixOf] at h2; first | exact h2 | exact h2.symm) h

theorem tp_ne {c : UInt8} {t : List UInt8} (h : c ≠ 45) : trimPrefix (c :: t) [45] = c :: t := by unfold trimPrefix; rw [hp_ne h]; rfl

theorem tp_eq (t : List UInt8) : trimPrefix (45 :: t) [45] = t := by simp [trimPrefix, hasPrefix]

theorem hp_eq (t : List UInt8) : hasPrefix (45 :: t) [45] = true := by simp [hasPrefix]

theorem parse_text {n : Bool} {l : List Nat} {z : Int} (h : VZ n l z) : parseS (textZ n (val l)) = ((n, l), 0) := by
  have hn := h.neg_eq
  have hl := h.limbs_eq
  have hv := h.val_eq
  have hfit : (limbs z.natAbs).length ≤ 4096 := h.2
  unfold textZ
  rw [hv]
  by_cases h0 : z = 0
  · subst h0
    rw [if_pos (by simp), hn, hl]
    rfl
  · have hp : 0 < z.natAbs := by omega
    rw [if_neg (by omega)]
    obtain ⟨c, t, e, hc48, hc1, hc2⟩ := decS_head hp
    have hd := decS_dig z.natAbs
    have hdv := dv_dec z.natAbs
    have hc45 : c ≠ 45 := by
      rintro rfl
      have : (45 : UInt8).toNat = 45 := rfl
      omega
    have hh : (some c == some (48 : UInt8)) = false := by simpa using hc48
    cases n with
    | true =>
      rw [if_pos rfl]
      unfold parseS parOk
      rw [tp_eq, hp_eq, hd, hdv, e]
      simp only [List.isEmpty_cons, List.head?_cons, hh, Bool.not_false, Bool.true_or, Bool.true_and, if_true]
      unfold outN
      rw [if_pos hfit, decide_eq_true hp, ← hl]
      rfl
    | false =>
      rw [if_neg (by simp)]
      unfold parseS parOk
      rw [e] at hd hdv ⊢
      rw [tp_ne hc45, hp_ne hc45, hd, hdv]
      simp only [List.isEmpty_cons, List.head?_cons, hh, Bool.not_false, Bool.true_or, Bool.true_and, if_true]
      unfold outN
      rw [if_pos hfit, ← hl]
      rfl

end Go.Proofs.YtmelbahbjdogdaaGreatDoor

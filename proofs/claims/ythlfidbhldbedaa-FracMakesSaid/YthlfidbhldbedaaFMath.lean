/- Fractions in plain arithmetic: the valid form of the quotient of two whole numbers. No program in sight. -/
import Derived.Test.YthlfidbhldbedaaMathZ
namespace Go.Proofs.Ythlfidbhldbedaa
/-- A fraction is not valid. -/
def badF (n1 : Bool) (l1 : List Nat) (n2 : Bool) (l2 : List Nat) : Bool :=
  badL n1 l1 || badL n2 l2 || n2 || decide (l2.length = 0) || !decide (Nat.gcd (val l1) (val l2) = 1)

def chkF (n1 : Bool) (l1 : List Nat) (n2 : Bool) (l2 : List Nat) : Int := if badF n1 l1 n2 l2 then 8 else 0

/-- The greatest common divisor with the sign of the second number. -/
def sgZ (x y : Int) : Int := if y < 0 then -(Int.gcd x y : Int) else (Int.gcd x y : Int)

/-- The valid form of x / y. -/
def redZ (x y : Int) : (Bool × List Nat) × (Bool × List Nat) := (wOf (x.fdiv (sgZ x y)), wOf (y.fdiv (sgZ x y)))

def zF : (Bool × List Nat) × (Bool × List Nat) := ((false, []), (false, []))

def fitB (z : Int) : Bool := decide ((limbs z.natAbs).length ≤ 4096)

theorem fitB_iff {z : Int} : fitB z = true ↔ fitZ z := by unfold fitB fitZ; exact decide_eq_true_iff

def makeS (n1 : Bool) (l1 : List Nat) (n2 : Bool) (l2 : List Nat) : ((Bool × List Nat) × (Bool × List Nat)) × Int :=
  if badL n1 l1 || badL n2 l2 then (zF, 8) else if l2.length = 0 then (zF, 18) else (redZ (zv n1 l1) (zv n2 l2), 0)

def ofS (x y : Int) : ((Bool × List Nat) × (Bool × List Nat)) × Int := if y = 0 then (zF, 18) else (redZ x y, 0)

/-- Sign and limbs of both numbers are a valid form of x / y. -/
structure VF (n1 : Bool) (l1 : List Nat) (n2 : Bool) (l2 : List Nat) (x y : Int) : Prop where
  num : VZ n1 l1 x
  den : VZ n2 l2 y
  pos : 0 < y
  one : Int.gcd x y = 1

section
variable {n1 n2 : Bool} {l1 l2 : List Nat} {x y : Int}
theorem VF.good (h : VF n1 l1 n2 l2 x y) : badF n1 l1 n2 l2 = false := by
  have hn : n2 = false := by rw [h.den.neg_eq]; exact decide_eq_false (by have := h.pos; omega)
  have hl : l2.length ≠ 0 := fun e => by have := h.den.zero.1 e; have := h.pos; omega
  have hg : Nat.gcd (val l1) (val l2) = 1 := by rw [h.num.val_eq, h.den.val_eq]; exact h.one
  unfold badF
  simp only [Bool.or_eq_false_iff, decide_eq_false_iff_not, Bool.not_eq_false', decide_eq_true_eq]
  exact ⟨⟨⟨⟨h.num.good, h.den.good⟩, hn⟩, hl⟩, hg⟩

theorem vf_of (h1 : Lim l1) (h2 : Lim l2) (h : badF n1 l1 n2 l2 = false) : VF n1 l1 n2 l2 (zv n1 l1) (zv n2 l2) := by
  unfold badF at h
  simp only [Bool.or_eq_false_iff, decide_eq_false_iff_not, Bool.not_eq_false', decide_eq_true_eq] at h
  obtain ⟨⟨⟨⟨a, b⟩, c⟩, d⟩, e⟩ := h
  have v1 := vz_of h1 a
  have v2 := vz_of h2 b
  refine ⟨v1, v2, ?_, ?_⟩
  · have h0 := mt v2.zero.2 d
    have := of_decide_eq_false (v2.neg_eq.symm.trans c)
    omega
  · rw [← e, v1.val_eq, v2.val_eq]; rfl

theorem VF.chk (h : VF n1 l1 n2 l2 x y) : chkF n1 l1 n2 l2 = 0 := by unfold chkF; rw [h.good]; rfl

theorem sg_abs (x y : Int) : (sgZ x y).natAbs = Int.gcd x y := by unfold sgZ; split <;> simp

theorem sg_ne (hy : y ≠ 0) : sgZ x y ≠ 0 := fun e => by
  have := sg_abs x y
  rw [e] at this
  have h0 := Int.gcd_eq_zero_iff.1 this.symm
  exact hy h0.2

theorem fit_sg (h1 : fitZ x) (h2 : fitZ y) : fitZ (sgZ x y) := by
  have h := fit_gcd h1 h2
  unfold fitZ at *
  rw [sg_abs]
  simpa using h

theorem sg_dvd_left (x y : Int) : sgZ x y ∣ x := by
  unfold sgZ; split
  · exact (Int.neg_dvd).2 (Int.gcd_dvd_left ..)
  · exact Int.gcd_dvd_left ..

theorem sg_dvd_right (x y : Int) : sgZ x y ∣ y := by
  unfold sgZ; split
  · exact (Int.neg_dvd).2 (Int.gcd_dvd_right ..)
  · exact Int.gcd_dvd_right ..

end
theorem make_good {n1 n2 : Bool} {l1 l2 : List Nat} {x y : Int} (h1 : VZ n1 l1 x) (h2 : VZ n2 l2 y) : makeS n1 l1 n2 l2 = ofS x y := by
  unfold makeS ofS
  rw [h1.good, h2.good, if_neg (by simp), h1.zv_eq, h2.zv_eq]
  by_cases hy : y = 0
  · rw [if_pos hy, if_pos (h2.zero.2 hy)]
  · rw [if_neg hy, if_neg (mt h2.zero.1 hy)]

end Go.Proofs.Ythlfidbhldbedaa

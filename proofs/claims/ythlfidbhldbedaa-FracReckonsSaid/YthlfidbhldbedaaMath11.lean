/- What Gcd, Shift, Pow, Sqrt hand back, as plain functions. No program in sight. -/
import Derived.Test.YthlfidbhldbedaaMath
namespace Go.Proofs.Ythlfidbhldbedaa
def gcdS (n1 : Bool) (l1 : List Nat) (n2 : Bool) (l2 : List Nat) : (Bool × List Nat) × Int := if badL n1 l1 || badL n2 l2 then ((false, []), 8) else outN false (Nat.gcd (val l1) (val l2))

theorem gcd_step (x y : Nat) : Nat.gcd y (x % y) = Nat.gcd x y := by
  rw [Nat.gcd_comm y, ← Nat.gcd_rec, Nat.gcd_comm]

theorem gcd_end {x y : List Nat} (h : ¬ 0 < y.length) : Nat.gcd (val x) (val y) = val x := by
  obtain rfl : y = [] := List.eq_nil_of_length_eq_zero (by omega)
  simp [val]

theorem mod_len {x y : List Nat} (hy : Canon y) (h : 0 < y.length) : (limbs (val x % val y)).length ≤ y.length :=
  canon_len_le (canon_limbs _) hy (by rw [val_limbs]; exact Nat.le_of_lt (Nat.mod_lt _ (canon_val_pos hy h)))

end Go.Proofs.Ythlfidbhldbedaa
/- Powers: what Pow hands back; a power that fits has all lesser powers fit. No program in sight. -/
namespace Go.Proofs.Ythlfidbhldbedaa
def fitZ (z : Int) : Prop := (limbs z.natAbs).length ≤ 4096

theorem fit_mono {a b : Int} (h : a.natAbs ≤ b.natAbs) (hb : fitZ b) : fitZ a := by
  unfold fitZ at *
  exact fit_le (canon_limbs b.natAbs) hb (by rw [val_limbs]; exact h)

theorem fit_one : fitZ 1 := by
  unfold fitZ
  exact Nat.le_trans (Nat.le_of_eq (show (limbs (1 : Int).natAbs).length = 1 by rfl)) (by omega)

theorem outZ_is {z : Int} (h : fitZ z) : outZ z = (wOf z, 0) := outZ_fit h

end Go.Proofs.Ythlfidbhldbedaa
/- Square roots: what Sqrt hands back, and Newton's step from above. No program in sight. -/
namespace Go.Proofs.Ythlfidbhldbedaa
end Go.Proofs.Ythlfidbhldbedaa

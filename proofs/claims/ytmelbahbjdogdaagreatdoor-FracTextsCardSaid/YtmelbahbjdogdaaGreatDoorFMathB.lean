/- Parse of Text is the fraction, Parse of Decimal at most half a unit away. No program in sight. -/
import Derived.Test.YtmelbahbjdogdaaGreatDoorFMath
namespace Go.Proofs.YtmelbahbjdogdaaGreatDoor
open Go.Lib
theorem headD_app {l r : List UInt8} (h : Dig l) (hr : ∀ c t, r = c :: t → isD c = false) : headD (l ++ r) = l ∧ tailD (l ++ r) = r := by
  induction l with
  | nil =>
    cases r with
    | nil => exact ⟨rfl, rfl⟩
    | cons c t =>
      have hc := hr c t rfl
      unfold headD tailD
      simp [hc]
  | cons c t ih =>
    have h1 := isD_iff.2 (dig_cons.1 h).1
    have ih := ih (dig_cons.1 h).2
    unfold headD tailD at *
    simp [h1, ih.1, ih.2]

theorem hp_ne1 {c d : UInt8} {t : List UInt8} (h : c ≠ d) : hasPrefix (c :: t) [d] = false := by
  cases h2 : hasPrefix (c :: t) [d] with
  | false => rfl
  | true => exact absurd (by simp [hasPrefix, List.isPrefixOf] at h2; first | exact h2 | exact h2.symm) h

theorem hp_eq1 (c : UInt8) (t : List UInt8) : hasPrefix (c :: t) [c] = true := by simp [hasPrefix]

theorem tp_eq1 (c : UInt8) (t : List UInt8) : trimPrefix (c :: t) [c] = t := by simp [trimPrefix, hasPrefix]

theorem dig_take {l : List UInt8} (h : Dig l) (k : Nat) : Dig (l.take k) := fun c hc => h c (List.mem_of_mem_take hc)

end Go.Proofs.YtmelbahbjdogdaaGreatDoor

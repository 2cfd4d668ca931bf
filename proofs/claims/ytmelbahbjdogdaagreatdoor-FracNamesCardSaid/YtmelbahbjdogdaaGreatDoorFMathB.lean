/- Parse of Text is the fraction, Parse of Decimal at most half a unit away. No program in sight. -/
import Derived.Test.YtmelbahbjdogdaaGreatDoorFMath
namespace Go.Proofs.YtmelbahbjdogdaaGreatDoor
open Go.Lib
theorem headD_app {l r : List UInt8} (h : Dig l) (hr : ∀ c t, r = c :: t → isD c = false) : headD (l ++ r) = l ∧ tailD (l ++ r) = r := by
  induction l with
  | nil =>
    cases r with
    | nil => exact ⟨rfl, rfl⟩
    | cons c t =>
      have hc := hr c t rfl
      unfold headD tailD
      simp [hc]
  | cons c t ih =>
    have h1 := isD_iff.2 (dig_cons.1 h).1
    have ih := ih (dig_cons.1 h).2
    unfold headD tailD at *
    simp [h1, ih.1, ih.2]

theorem hp_ne1 {c d : UInt8} {t : List UInt8} (h : c ≠ d) : hasPrefix (c :: t) [d] = false := by
  cases h2 : hasPrefix (c :: t) [d] with
  | false => rfl
  | true => exact absurd (by simp [hasPrefix, List.isPrefixOf] at h2; first | exact h2 | exact h2.symm) h

theorem hp_eq1 (c : UInt8) (t : List UInt8) : hasPrefix (c :: t) [c] = true := by simp [hasPrefix]

theorem tp_eq1 (c : UInt8) (t : List UInt8) : trimPrefix (c :: t) [c] = t := by simp [trimPrefix, hasPrefix]

theorem hp_nil1 (c : UInt8) : hasPrefix [] [c] = false := rfl

theorem sgn_of (x : Int) : sgn (decide (x < 0)) x.natAbs = x := by
  unfold sgn
  by_cases h : x < 0
  · rw [if_pos (by simpa using h)]; omega
  · rw [if_neg (by simpa using h)]; omega

/-- A sign before digits. -/
theorem sign_cut {x : Int} {d r : List UInt8} (hd : Dig d) (hne : d ≠ []) : trimPrefix ((if x < 0 then [45] else []) ++ (d ++ r)) [45] = d ++ r ∧ hasPrefix ((if x < 0 then [45] else []) ++ (d ++ r)) [45] = decide (x < 0) := by
  by_cases h : x < 0
  · rw [if_pos h]
    exact ⟨tp_eq1 45 _, by rw [decide_eq_true h]; exact hp_eq1 45 _⟩
  · rw [if_neg h, decide_eq_false h]
    cases d with
    | nil => exact absurd rfl hne
    | cons c t =>
      have h1 := (dig_cons.1 hd).1
      have hc : c ≠ 45 := by rintro rfl; have : (45 : UInt8).toNat = 45 := rfl; omega
      have hp : hasPrefix (c :: (t ++ r)) [45] = false := hp_ne1 hc
      exact ⟨by unfold trimPrefix; rw [show ([] ++ (c :: t ++ r) : List UInt8) = c :: (t ++ r) from rfl, hp]; rfl, hp⟩

/-- What Parse makes of a sign, digits and what stands behind them. -/
theorem parQ_of {x : Int} {d r : List UInt8} (hd : Dig d) (hne : d ≠ []) (hr : ∀ c t, r = c :: t → isD c = false) (hl : ((if x < 0 then [45] else []) ++ (d ++ r)).length ≤ 200) : parQ ((if x < 0 then [45] else []) ++ (d ++ r)) = restQ (decide (x < 0)) d r := by
  obtain ⟨h1, h2⟩ := sign_cut (x := x) (r := r) hd hne
  obtain ⟨h3, h4⟩ := headD_app hd hr
  unfold parQ
  rw [if_neg (by omega), h1, h2, h3, h4, if_neg hne]

theorem restQ_nil (x : Int) (d : List UInt8) (h : dv d = x.natAbs) : restQ (decide (x < 0)) d [] = some (x, 1) := by
  unfold restQ
  rw [hp_nil1, hp_nil1, if_neg Bool.false_ne_true, if_neg Bool.false_ne_true]
  have : sciS [] = some 0 := rfl
  rw [this]
  show some (powQ _ _ _ _) = _
  unfold powQ
  rw [if_pos (by decide), List.append_nil, h]
  simp [sgn_of]

end Go.Proofs.YtmelbahbjdogdaaGreatDoor

/- Parse of Text is the fraction, Parse of Decimal at most half a unit away. No program in sight. -/
import Derived.Test.YtmelbahbjdogdaaGreatDoorFMath
namespace Go.Proofs.YtmelbahbjdogdaaGreatDoor
open Go.Lib
theorem headD_app {l r : List UInt8} (h : Dig l) (hr : ∀ c t, r = c :: t → isD c = false) : headD (l ++ r) = l ∧ tailD (l ++ r) = r := by
  induction l with
  | nil =>
    cases r with
    | nil => exact ⟨rfl, rfl⟩
    | cons c t =>
      have hc := hr c t rfl
      unfold headD tailD
      simp [hc]
  | cons c t ih =>
    have h1 := isD_iff.2 (dig_cons.1 h).1
    have ih := ih (dig_cons.1 h).2
    unfold headD tailD at *
    simp [h1, ih.1, ih.2]

theorem headD_all {l : List UInt8} (h : Dig l) : headD l = l ∧ tailD l = [] := by
  have := headD_app (r := []) h (fun _ _ e => by cases e)
  rwa [List.append_nil] at this

theorem hp_ne1 {c d : UInt8} {t : List UInt8} (h : c ≠ d) : hasPrefix (c :: t) [d] = false := by
  cases h2 : hasPrefix (c :: t) [d] with
  | false => rfl
  | true => exact absurd (by simp [hasPrefix, List.isPrefixOf] at h2; first | exact h2 | exact h2.symm) h

theorem hp_eq1 (c : UInt8) (t : List UInt8) : hasPrefix (c :: t) [c] = true := by simp [hasPrefix]

theorem tp_eq1 (c : UInt8) (t : List UInt8) : trimPrefix (c :: t) [c] = t := by simp [trimPrefix, hasPrefix]

theorem hp_nil1 (c : UInt8) : hasPrefix [] [c] = false := rfl

/-- Digits without a sign. -/
theorem text0 (v : Nat) : Dig (textZ false v) ∧ textZ false v ≠ [] ∧ dv (textZ false v) = v := by
  unfold textZ
  by_cases h : v = 0
  · rw [if_pos h, h]
    refine ⟨?_, by simp, by decide⟩
    intro c hc
    rw [List.mem_singleton] at hc
    subst hc
    decide
  · rw [if_neg h, if_neg Bool.false_ne_true]
    exact ⟨digB_iff.1 (decS_dig v), fun e => h (decS_nil.1 e), dv_dec v⟩

theorem textZ_sign (x : Int) : textZ (decide (x < 0)) x.natAbs = (if x < 0 then [45] else []) ++ textZ false x.natAbs := by
  unfold textZ
  by_cases h : x < 0
  · have h0 : x.natAbs ≠ 0 := by omega
    rw [if_neg h0, if_neg h0, if_pos (decide_eq_true h), if_pos h, if_neg Bool.false_ne_true]; rfl
  · rw [if_neg h]
    by_cases h0 : x.natAbs = 0
    · rw [if_pos h0, if_pos h0]; rfl
    · rw [if_neg h0, if_neg h0, if_neg (by simpa using h), if_neg Bool.false_ne_true]; rfl

theorem sgn_of (x : Int) : sgn (decide (x < 0)) x.natAbs = x := by
  unfold sgn
  by_cases h : x < 0
  · rw [if_pos (by simpa using h)]; omega
  · rw [if_neg (by simpa using h)]; omega

/-- A sign before digits. -/
theorem sign_cut {x : Int} {d r : List UInt8} (hd : Dig d) (hne : d ≠ []) : trimPrefix ((if x < 0 then [45] else []) ++ (d ++ r)) [45] = d ++ r ∧ hasPrefix ((if x < 0 then [45] else []) ++ (d ++ r)) [45] = decide (x < 0) := by
  by_cases h : x < 0
  · rw [if_pos h]
    exact ⟨tp_eq1 45 _, by rw [decide_eq_true h]; exact hp_eq1 45 _⟩
  · rw [if_neg h, decide_eq_false h]
    cases d with
    | nil => exact absurd rfl hne
    | cons c t =>
      have h1 := (dig_cons.1 hd).1
      have hc : c ≠ 45 := by rintro rfl; have : (45 : UInt8).toNat = 45 := rfl; omega
      have hp : hasPrefix (c :: (t ++ r)) [45] = false := hp_ne1 hc
      exact ⟨by unfold trimPrefix; rw [show ([] ++ (c :: t ++ r) : List UInt8) = c :: (t ++ r) from rfl, hp]; rfl, hp⟩

/-- What Parse makes of a sign, digits and what stands behind them. -/
theorem parQ_of {x : Int} {d r : List UInt8} (hd : Dig d) (hne : d ≠ []) (hr : ∀ c t, r = c :: t → isD c = false) (hl : ((if x < 0 then [45] else []) ++ (d ++ r)).length ≤ 200) : parQ ((if x < 0 then [45] else []) ++ (d ++ r)) = restQ (decide (x < 0)) d r := by
  obtain ⟨h1, h2⟩ := sign_cut (x := x) (r := r) hd hne
  obtain ⟨h3, h4⟩ := headD_app hd hr
  unfold parQ
  rw [if_neg (by omega), h1, h2, h3, h4, if_neg hne]

theorem restQ_nil (x : Int) (d : List UInt8) (h : dv d = x.natAbs) : restQ (decide (x < 0)) d [] = some (x, 1) := by
  unfold restQ
  rw [hp_nil1, hp_nil1, if_neg Bool.false_ne_true, if_neg Bool.false_ne_true]
  have : sciS [] = some 0 := rfl
  rw [this]
  show some (powQ _ _ _ _) = _
  unfold powQ
  rw [if_pos (by decide), List.append_nil, h]
  simp [sgn_of]

theorem restQ_slash (x : Int) (d e : List UInt8) (h : dv d = x.natAbs) (he : Dig e) (hne : e ≠ []) : restQ (decide (x < 0)) d (47 :: e) = some (x, ((dv e : Nat) : Int)) := by
  obtain ⟨h1, h2⟩ := headD_all he
  unfold restQ
  rw [hp_eq1, if_pos rfl, tp_eq1, h1, h2, if_pos ⟨rfl, hne⟩, h, sgn_of]

theorem restQ_dot (x : Int) (d e : List UInt8) (h : dv (d ++ e) = x.natAbs) (he : Dig e) (hne : e ≠ []) : restQ (decide (x < 0)) d (46 :: e) = some (x, 10 ^ e.length) := by
  obtain ⟨h1, h2⟩ := headD_all he
  unfold restQ
  rw [hp_ne1 (by decide), if_neg Bool.false_ne_true, hp_eq1, if_pos rfl, tp_eq1, h1, h2, if_neg hne]
  have : sciS [] = some 0 := rfl
  rw [this]
  show some (powQ _ _ _ _) = _
  unfold powQ
  have hp : 0 < e.length := List.length_pos_iff.2 hne
  rw [if_neg (by omega), h, sgn_of]
  congr 2
  congr 1
  omega

/-- Parse of Text. -/
theorem par_text {n1 n2 : Bool} {l1 l2 : List Nat} {x y : Int} (v : VF n1 l1 n2 l2 x y) (s : List UInt8) (hs : s = if zv n2 l2 = 1 then textZ n1 (val l1) else textZ n1 (val l1) ++ 47 :: textZ n2 (val l2)) (hl : s.length ≤ 200) : parF s = (((n1, l1), (n2, l2)), 0) := by
  have hq : parQ s = some (x, y) := by
    obtain ⟨t1, t2, t3⟩ := text0 x.natAbs
    rw [v.num.neg_eq, v.num.val_eq, textZ_sign, v.den.zv_eq] at hs
    by_cases h1 : y = 1
    · rw [if_pos h1] at hs
      have e : s = (if x < 0 then [45] else []) ++ (textZ false x.natAbs ++ []) := by rw [List.append_nil]; exact hs
      rw [e] at hl ⊢
      rw [parQ_of t1 t2 (fun _ _ e => by cases e) hl, restQ_nil x _ t3, h1]
    · rw [if_neg h1] at hs
      obtain ⟨u1, u2, u3⟩ := text0 y.natAbs
      have hn2 : n2 = false := by rw [v.den.neg_eq]; exact decide_eq_false (by have := v.pos; omega)
      rw [hn2, v.den.val_eq, List.append_assoc] at hs
      rw [hs] at hl ⊢
      rw [parQ_of t1 t2 (fun c t e => by cases e; decide) hl, restQ_slash x _ _ t3 u1 u2, u3]
      have := v.pos
      congr 2
      omega
  unfold parF
  rw [hq]
  show ofS x y = _
  unfold ofS
  rw [if_neg (by have := v.pos; omega), v.red]

theorem dv_zeros (k : Nat) (l : List UInt8) : dv (List.replicate k 48 ++ l) = dv l := by
  induction k with
  | zero => rfl
  | succ k ih => rw [List.replicate_succ, List.cons_append, dv_zero_cons, ih]

theorem dig_take {l : List UInt8} (h : Dig l) (k : Nat) : Dig (l.take k) := fun c hc => h c (List.mem_of_mem_take hc)

theorem dig_drop {l : List UInt8} (h : Dig l) (k : Nat) : Dig (l.drop k) := fun c hc => h c (List.mem_of_mem_drop hc)

/-- Parse of Decimal. -/
theorem par_dec (z : Int) (k : Nat) (hl : (decTxt z k).length ≤ 200) : parQ (decTxt z k) = some (z, 10 ^ k) := by
  obtain ⟨t1, t2, t3⟩ := text0 z.natAbs
  obtain ⟨p1, p2⟩ := padS_len (textZ false z.natAbs) (k + 1)
  have hd : Dig (padS (textZ false z.natAbs) (k + 1)) := by
    unfold padS
    refine dig_append (fun c hc => ?_) t1
    rw [(List.mem_replicate.1 hc).2]
    decide
  have hv : dv (padS (textZ false z.natAbs) (k + 1)) = z.natAbs := by unfold padS; rw [dv_zeros, t3]
  unfold decTxt at hl ⊢
  generalize padS (textZ false z.natAbs) (k + 1) = P at *
  have hP : P ≠ [] := fun e => by rw [e] at p1; simp at p1
  unfold dotS at hl ⊢
  by_cases h0 : k = 0
  · subst h0
    rw [if_pos rfl] at hl ⊢
    have e : (if z < 0 then [45] else []) ++ P = (if z < 0 then [45] else []) ++ (P ++ []) := by rw [List.append_nil]
    rw [e] at hl ⊢
    rw [parQ_of hd hP (fun _ _ e => by cases e) hl, restQ_nil z P hv]
    rfl
  · rw [if_neg h0] at hl ⊢
    have hH : P.take (P.length - k) ≠ [] := fun e => by have := congrArg List.length e; rw [List.length_take] at this; simp at this; omega
    have hQ : P.drop (P.length - k) ≠ [] := fun e => by have := congrArg List.length e; rw [List.length_drop] at this; simp at this; omega
    have hQl : (P.drop (P.length - k)).length = k := by rw [List.length_drop]; omega
    rw [parQ_of (dig_take hd _) hH (fun c t e => by cases e; decide) hl, restQ_dot z _ _ (by rw [List.take_append_drop]; exact hv) (dig_drop hd _) hQ, hQl]

/-- The rounded quotient is at most one half away. -/
theorem round_near {a b : Int} (h : 0 < b) : -b ≤ 2 * (roundZ a b * b - a) ∧ 2 * (roundZ a b * b - a) ≤ b := by
  obtain ⟨d1, d2, d3⟩ := dm_parts (x := a) h
  have e : a.fdiv b * b = a - a.fmod b := by rw [Int.mul_comm]; omega
  unfold roundZ
  split
  · rw [Int.add_mul, e]; omega
  · rw [e]; omega

theorem rnd_near {X y : Int} (hy : 0 < y) (fX : fitZ X) (fy : fitZ y) : -y ≤ 2 * (rndS X y * y - X) ∧ 2 * (rndS X y * y - X) ≤ y := by
  obtain ⟨a, b, v, e, -, -⟩ := red_vf (x := X) (y := y) (by omega) fX fy
  have hb := v.pos
  have hr : rndS X y = roundZ a b := by unfold rndS; rw [v.num.zv_eq, v.den.zv_eq]
  rw [hr]
  obtain ⟨n1, n2⟩ := round_near (a := a) hb
  generalize roundZ a b = z at *
  have key : b * (2 * (z * y - X)) = (2 * (z * b - a)) * y := by
    have : b * (2 * (z * y - X)) = 2 * (z * b * y) - 2 * (X * b) := by grind
    rw [this, ← e]
    grind
  constructor
  · have := Int.mul_le_mul_of_nonneg_right n1 (Int.le_of_lt hy)
    have h2 : b * (-y) ≤ b * (2 * (z * y - X)) := by
      rw [key]
      have e2 : b * -y = -b * y := by grind
      omega
    exact Int.le_of_mul_le_mul_left h2 hb
  · have := Int.mul_le_mul_of_nonneg_right n2 (Int.le_of_lt hy)
    have h2 : b * (2 * (z * y - X)) ≤ b * y := by rw [key]; exact this
    exact Int.le_of_mul_le_mul_left h2 hb

end Go.Proofs.YtmelbahbjdogdaaGreatDoor

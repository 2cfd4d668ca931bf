/- What Parse makes of Decimal is at most half a unit away. No program in sight. -/
import Derived.Test.YtmelbahbjdogdaaGreatDoorFMathB
namespace Go.Proofs.YtmelbahbjdogdaaGreatDoor
open Go.RowKit
theorem Cf.newF {W : World} {g : Nat} {n1 n2 : Bool} {A1 A2 : Option Addr} {m1 c1 m2 c2 : Nat} (k : Cf W g n1 A1 m1 c1 n2 A2 m2 c2) {p1 p2 : Bool} {B1 B2 : Option Addr} {q1 d1 q2 d2 : Nat} :
    Cf ((((W.setCell ⟨g, 0, none⟩ (.bool p1)).setCell ⟨g, 1, none⟩ (.slice B1 q1 d1)).setCell ⟨g, 2, none⟩ (.bool p2)).setCell ⟨g, 3, none⟩ (.slice B2 q2 d2)) g p1 B1 q1 d1 p2 B2 q2 d2 := by
  obtain ⟨h0, h1, h2, h3⟩ := k
  have ne : ∀ i j : Nat, i ≠ j → (⟨g, i, none⟩ : Addr) ≠ ⟨g, j, none⟩ := fun i j hij e => hij (by injection e)
  have s0 := World.cell?_setCell_same W ⟨g, 0, none⟩ (.bool p1) h0
  have s1 := World.cell?_setCell_same (W.setCell ⟨g, 0, none⟩ (.bool p1)) ⟨g, 1, none⟩ (.slice B1 q1 d1) ((World.cell?_setCell_other _ _ _ _ (ne 0 1 (by decide))).trans h1)
  have s2 := World.cell?_setCell_same ((W.setCell ⟨g, 0, none⟩ (.bool p1)).setCell ⟨g, 1, none⟩ (.slice B1 q1 d1)) ⟨g, 2, none⟩ (.bool p2) (((World.cell?_setCell_other _ _ _ _ (ne 1 2 (by decide))).trans (World.cell?_setCell_other _ _ _ _ (ne 0 2 (by decide)))).trans h2)
  have s3 := World.cell?_setCell_same (((W.setCell ⟨g, 0, none⟩ (.bool p1)).setCell ⟨g, 1, none⟩ (.slice B1 q1 d1)).setCell ⟨g, 2, none⟩ (.bool p2)) ⟨g, 3, none⟩ (.slice B2 q2 d2) ((((World.cell?_setCell_other _ _ _ _ (ne 2 3 (by decide))).trans (World.cell?_setCell_other _ _ _ _ (ne 1 3 (by decide)))).trans (World.cell?_setCell_other _ _ _ _ (ne 0 3 (by decide)))).trans h3)
  refine ⟨?_, ?_, ?_, s3⟩
  · rw [World.cell?_setCell_other _ _ _ _ (ne 3 0 (by decide)), World.cell?_setCell_other _ _ _ _ (ne 2 0 (by decide)), World.cell?_setCell_other _ _ _ _ (ne 1 0 (by decide))]; exact s0
  · rw [World.cell?_setCell_other _ _ _ _ (ne 3 1 (by decide)), World.cell?_setCell_other _ _ _ _ (ne 2 1 (by decide))]; exact s1
  · rw [World.cell?_setCell_other _ _ _ _ (ne 3 2 (by decide))]; exact s2

/-- The sign of the numerator is written. -/
theorem Cf.neg {W : World} {g : Nat} {n1 n2 : Bool} {A1 A2 : Option Addr} {m1 c1 m2 c2 : Nat} (k : Cf W g n1 A1 m1 c1 n2 A2 m2 c2) (p : Bool) :
    Cf (W.setCell ⟨g, 0, none⟩ (.bool p)) g p A1 m1 c1 n2 A2 m2 c2 := by
  obtain ⟨h0, h1, h2, h3⟩ := k
  have f : ∀ i : Nat, 0 ≠ i → (W.setCell ⟨g, 0, none⟩ (.bool p)).cell? ⟨g, i, none⟩ = W.cell? ⟨g, i, none⟩ := fun i hi => World.cell?_setCell_other _ _ _ _ (fun e => hi (by injection e))
  exact ⟨World.cell?_setCell_same W ⟨g, 0, none⟩ (.bool p) h0, (f 1 (by decide)).trans h1, (f 2 (by decide)).trans h2, (f 3 (by decide)).trans h3⟩

theorem Cf.far1 {W : World} {g g' : Nat} {n1 n2 : Bool} {A1 A2 : Option Addr} {m1 c1 m2 c2 : Nat} (k : Cf W g n1 A1 m1 c1 n2 A2 m2 c2) (hne : g ≠ g') (x : Value) :
    Cf (W.setCell ⟨g', 0, none⟩ x) g n1 A1 m1 c1 n2 A2 m2 c2 := by
  have f : ∀ i : Nat, (W.setCell ⟨g', 0, none⟩ x).cell? ⟨g, i, none⟩ = W.cell? ⟨g, i, none⟩ := fun i => World.cell?_setCell_other _ _ _ _ (fun e => hne (congrArg Addr.block e).symm)
  obtain ⟨h0, h1, h2, h3⟩ := k
  exact ⟨(f 0).trans h0, (f 1).trans h1, (f 2).trans h2, (f 3).trans h3⟩

section
variable {W : World} {g g' : Nat} {v0 v1 v2 v3 : Value}
theorem far_cell (hne : g ≠ g') (i j : Nat) (V : World) (v : Value) : (V.setCell ⟨g', j, none⟩ v).cell? ⟨g, i, none⟩ = V.cell? ⟨g, i, none⟩ := World.cell?_setCell_other _ _ _ _ (fun e => hne (congrArg Addr.block e).symm)

theorem farF2 (h : W.cell? ⟨g, 0, none⟩ = some v0 ∧ W.cell? ⟨g, 1, none⟩ = some v1) (hne : g ≠ g') (x y z u : Value) :
    ((((W.setCell ⟨g', 0, none⟩ x).setCell ⟨g', 1, none⟩ y).setCell ⟨g', 2, none⟩ z).setCell ⟨g', 3, none⟩ u).cell? ⟨g, 0, none⟩ = some v0 ∧
    ((((W.setCell ⟨g', 0, none⟩ x).setCell ⟨g', 1, none⟩ y).setCell ⟨g', 2, none⟩ z).setCell ⟨g', 3, none⟩ u).cell? ⟨g, 1, none⟩ = some v1 :=
  ⟨by rw [far_cell hne, far_cell hne, far_cell hne, far_cell hne]; exact h.1, by rw [far_cell hne, far_cell hne, far_cell hne, far_cell hne]; exact h.2⟩

theorem farF4 (h : W.cell? ⟨g, 0, none⟩ = some v0 ∧ W.cell? ⟨g, 1, none⟩ = some v1 ∧ W.cell? ⟨g, 2, none⟩ = some v2 ∧ W.cell? ⟨g, 3, none⟩ = some v3) (hne : g ≠ g') (x y z u : Value) :
    ((((W.setCell ⟨g', 0, none⟩ x).setCell ⟨g', 1, none⟩ y).setCell ⟨g', 2, none⟩ z).setCell ⟨g', 3, none⟩ u).cell? ⟨g, 0, none⟩ = some v0 ∧
    ((((W.setCell ⟨g', 0, none⟩ x).setCell ⟨g', 1, none⟩ y).setCell ⟨g', 2, none⟩ z).setCell ⟨g', 3, none⟩ u).cell? ⟨g, 1, none⟩ = some v1 ∧
    ((((W.setCell ⟨g', 0, none⟩ x).setCell ⟨g', 1, none⟩ y).setCell ⟨g', 2, none⟩ z).setCell ⟨g', 3, none⟩ u).cell? ⟨g, 2, none⟩ = some v2 ∧
    ((((W.setCell ⟨g', 0, none⟩ x).setCell ⟨g', 1, none⟩ y).setCell ⟨g', 2, none⟩ z).setCell ⟨g', 3, none⟩ u).cell? ⟨g, 3, none⟩ = some v3 := by
  refine ⟨?_, ?_, ?_, ?_⟩ <;> rw [far_cell hne, far_cell hne, far_cell hne, far_cell hne]
  · exact h.1
  · exact h.2.1
  · exact h.2.2.1
  · exact h.2.2.2

end
theorem pow10_few {k : Nat} (hk : k ≤ 50) : ((10 : Int) ^ k).natAbs < 4294967296 ^ 6 := by
  rw [Int.natAbs_pow]
  have : (10 : Int).natAbs ^ k ≤ 10 ^ 50 := Nat.pow_le_pow_right (by decide) hk
  omega

theorem vf_unit {m : Int} (hm : 0 < m) (f : fitZ m) : VF (wOf 1).1 (wOf 1).2 (wOf m).1 (wOf m).2 1 m :=
  ⟨vz_wOf fit_one, vz_wOf f, hm, Int.one_gcd⟩

theorem round_le {a b : Int} (h : 0 < b) : (roundZ a b).natAbs ≤ a.natAbs + 1 := by
  obtain ⟨d1, d2, d3⟩ := dm_parts (x := a) h
  have e : b * a.fdiv b = a - a.fmod b := by omega
  have hq : (a.fdiv b).natAbs ≤ a.natAbs ∧ a.fdiv b ≤ a.natAbs := by
    rcases (by omega : a.fdiv b < 0 ∨ 0 ≤ a.fdiv b) with h0 | h0
    · have h1 : b * a.fdiv b ≤ a.fdiv b := by
        have := Int.mul_le_mul_of_nonpos_right (a := b) (b := 1) (c := a.fdiv b) (by omega) (by omega)
        omega
      have h2 : a < 0 := by
        have h4 : b * (a.fdiv b + 1) ≤ b * 0 := Int.mul_le_mul_of_nonneg_left (by omega) (by omega)
        rw [Int.mul_add, Int.mul_one, Int.mul_zero] at h4
        omega
      have h3 : a.fdiv b = -((-a).fdiv b) - (if (-a).fmod b = 0 then 0 else 1) := by
        have := ceil_neg (x := -a) h
        unfold ceilZ at this
        rw [Int.neg_neg] at this
        split at this <;> simp_all <;> omega
      obtain ⟨g1, g2, g3⟩ := dm_parts (x := -a) h
      have g4 : 0 ≤ (-a).fdiv b := Int.fdiv_nonneg (by omega) (by omega)
      have g5 : (-a).fdiv b ≤ b * (-a).fdiv b := by
        have := Int.mul_le_mul_of_nonneg_right (a := 1) (b := b) (c := (-a).fdiv b) (by omega) g4
        omega
      split at h3 <;> omega
    · have h1 : a.fdiv b ≤ b * a.fdiv b := by
        have := Int.mul_le_mul_of_nonneg_right (a := 1) (b := b) (c := a.fdiv b) (by omega) h0
        omega
      omega
  unfold roundZ
  split <;> omega

theorem absZ_vz {n : Bool} {l : List Nat} {x : Int} (h : VZ n l x) : VZ false l (x.natAbs : Int) := by
  have hf : fitZ (x.natAbs : Int) := fit_mono (by simp) h.2
  refine vz_mk ?_ hf
  have e := h.limbs_eq
  have v : VZ (wOf (x.natAbs : Int)).1 (wOf (x.natAbs : Int)).2 (x.natAbs : Int) := vz_wOf hf
  have e1 := v.neg_eq
  have e2 := v.limbs_eq
  rw [Int.natAbs_natCast, ← e] at e2
  rw [decide_eq_false (by omega)] at e1
  rw [← e1, ← e2]

/-- All that FracBack does behind Decimal. -/
theorem back_facts {n1 n2 : Bool} {l1 l2 : List Nat} {x y : Int} (va : VF n1 l1 n2 l2 x y) (h1 : l1.length ≤ 15) (h2 : l2.length ≤ 15) {k : Nat} (hk : k ≤ 50) {z : Int} (hz : z = rndS (x * 10 ^ k) y) :
    ∃ c d h : (Bool × List Nat) × (Bool × List Nat), ∃ r : Int, ofS z (10 ^ k) = (c, 0) ∧ chkF c.1.1 c.1.2 c.2.1 c.2.2 = 0 ∧ c.1.2.length ≤ 30 ∧ c.2.2.length ≤ 30 ∧
      bothF n1 l1 n2 l2 c.1.1 c.1.2 c.2.1 c.2.2 subV = (d, 0) ∧ redZ 1 (10 ^ k) = (wOf 1, p10 k) ∧
      bothF (wOf 1).1 (wOf 1).2 (p10 k).1 (p10 k).2 (wOf 1).1 (wOf 1).2 (wOf 2).1 (wOf 2).2 mulV = (h, 0) ∧
      cmpF false d.1.2 d.2.1 d.2.2 h.1.1 h.1.2 h.2.1 h.2.2 = (r, 0) ∧ r ≤ 0 := by
  have hy := va.pos
  have vka : VFk 15 n1 l1 n2 l2 x y := vfk_of va h1 h2
  have hp := pow10_few hk
  have hp0 : (0 : Int) < 10 ^ k := Int.pow_pos (by decide)
  have hX := mul_few vka.hx hp
  have fX : fitZ (x * 10 ^ k) := fit_of_lt hX (by omega)
  obtain ⟨n3, n4⟩ := rnd_near hy fX va.den.2
  have hzl : z.natAbs < 4294967296 ^ 22 := by
    obtain ⟨a, b, v, -, ha, -⟩ := red_vf (x := x * 10 ^ k) (y := y) (by omega) fX va.den.2
    have : z = roundZ a b := by rw [hz]; unfold rndS; rw [v.num.zv_eq, v.den.zv_eq]
    have h3 := round_le (a := a) v.pos
    rw [← this] at h3
    have h4 : (15 + 6 : Nat) = 21 := rfl
    rw [h4] at hX
    have h5 : (4294967296 : Nat) ^ 22 = 4294967296 ^ 21 * 4294967296 := Nat.pow_succ ..
    generalize (4294967296 : Nat) ^ 21 = B at *
    omega
  rw [← hz] at n3 n4
  generalize hT : (10 : Int) ^ k = T at *
  have hT2 : p10 k = wOf T := by unfold p10; rw [hT]
  rw [hT2]
  have fT : fitZ T := fit_of_lt hp (by omega)
  obtain ⟨p, q, vc, ec⟩ := red_few (a := z) (b := T) (k := 22) (by omega) hzl (lt_up hp (by omega)) (by omega)
  have hq := vc.vf.pos
  have hlc := len_of_lt vc.vf.num vc.hx
  have hld := len_of_lt vc.vf.den vc.hy
  obtain ⟨u, v, vd, ed⟩ := red_few (a := x * q - p * y) (b := y * q) (k := 38) (Int.mul_ne_zero (by omega) (by omega)) (sub_few (k := 37) (mul_few vka.hx vc.hy) (by have := mul_few vc.hx vka.hy; rwa [show (22 + 15 : Nat) = 37 from rfl] at this)) (lt_up (mul_few vka.hy vc.hy) (by omega)) (by omega)
  have hv := vd.vf.pos
  have v1 : VF (wOf 1).1 (wOf 1).2 (wOf T).1 (wOf T).2 1 T := vf_unit hp0 fT
  have v2 : VF (wOf 1).1 (wOf 1).2 (wOf 2).1 (wOf 2).2 1 2 := vf_unit (by decide) (fit_ten (k := 1) (by decide) (by omega))
  have k1 : VFk 6 (wOf 1).1 (wOf 1).2 (wOf T).1 (wOf T).2 1 T := ⟨v1, by decide, hp⟩
  have k2 : VFk 1 (wOf 1).1 (wOf 1).2 (wOf 2).1 (wOf 2).2 1 2 := ⟨v2, by decide, by decide⟩
  have hT2l := mul_few k1.hy k2.hy
  have fT2 : fitZ (T * 2) := fit_of_lt hT2l (by omega)
  have v3 : VF (wOf 1).1 (wOf 1).2 (wOf (T * 2)).1 (wOf (T * 2)).2 1 (T * 2) := vf_unit (by omega) fT2
  have vdu : VF false (redZ (x * q - p * y) (y * q)).1.2 (redZ (x * q - p * y) (y * q)).2.1 (redZ (x * q - p * y) (y * q)).2.2 (u.natAbs : Int) v :=
    ⟨absZ_vz vd.vf.num, vd.vf.den, hv, by have := vd.vf.one; rw [← this]; unfold Int.gcd; simp⟩
  have hu := vd.hx
  have hv2 := vd.hy
  refine ⟨_, _, (wOf 1, wOf (T * 2)), cmpZ ((u.natAbs : Int) * (T * 2)) (1 * v), by unfold ofS; rw [if_neg (by omega)], vc.vf.chk, by omega, by omega, (both_good va vc.vf).trans (sub_good vka vc (by omega)), v1.red, ?_, ?_, ?_⟩
  · rw [both_good v1 v2, mul_good k1 k2 (by omega), show (1 : Int) * 1 = 1 from rfl, v3.red]
  · rw [cmpF_good vdu v3]
    unfold cmpV
    rw [fit_few (k := 38 + 7) (mul_few (by simpa using hu) hT2l) (by omega), fit_few (k := 38) (by rw [Int.one_mul]; exact hv2) (by omega)]
    rfl
  · -- u (y q) = (x q - p y) v; p T = z q; |x T - z y| 2 <= y
    have hyq : 0 < y * q := Int.mul_pos hy hq
    have key : u * (T * 2) * (y * q) = (2 * (x * T - z * y)) * (q * v) := by grind
    have hqv : 0 < q * v := Int.mul_pos hq hv
    have b1 : (2 * (x * T - z * y)) * (q * v) ≤ y * (q * v) := Int.mul_le_mul_of_nonneg_right (by omega) (Int.le_of_lt hqv)
    have b2 : (-y) * (q * v) ≤ (2 * (x * T - z * y)) * (q * v) := Int.mul_le_mul_of_nonneg_right (by omega) (Int.le_of_lt hqv)
    have e1 : y * (q * v) = v * (y * q) := by grind
    have c1 : u * (T * 2) ≤ v := Int.le_of_mul_le_mul_right (by rw [key, ← e1]; exact b1) hyq
    have c2 : -v ≤ u * (T * 2) := by
      refine Int.le_of_mul_le_mul_right (a := y * q) ?_ hyq
      rw [key, Int.neg_mul, ← e1, ← Int.neg_mul]
      exact b2
    have c3 : (u.natAbs : Int) * (T * 2) ≤ v := by
      rcases (by omega : (u.natAbs : Int) = u ∨ (u.natAbs : Int) = -u) with h | h
      · rw [h]; exact c1
      · rw [h, Int.neg_mul]; omega
    unfold cmpZ
    rw [Int.one_mul]
    generalize (u.natAbs : Int) * (T * 2) = U at *
    split
    · decide
    · rw [if_neg (by omega)]; decide

end Go.Proofs.YtmelbahbjdogdaaGreatDoor

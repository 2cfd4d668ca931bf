/- The walk of the law FracOrder. -/
import Derived.Test.YtmelbahbjdogdaaGreatDoorF27
namespace Go.Proofs.YtmelbahbjdogdaaGreatDoor
open Go.RowKit
attribute [local go_sem ↓] Go.wp_at_zero Go.wp_at_succ
theorem cmpZ_cases (a b : Int) : cmpZ a b = -1 ∨ cmpZ a b = 0 ∨ cmpZ a b = 1 := by unfold cmpZ; (repeat' split) <;> simp

/-- The order of three fractions with positive denominators. -/
theorem order_chain {x1 y1 x2 y2 x3 y3 : Int} (h1 : 0 < y1) (h2 : 0 < y2) (h3 : 0 < y3) :
    (0 < cmpZ (x1 * y2) (x2 * y1) ∨ 0 < cmpZ (x2 * y3) (x3 * y2) ∨ cmpZ (x1 * y3) (x3 * y1) ≤ 0) ∧ (cmpZ (x1 * y2) (x2 * y1) < 0 ∨ cmpZ (x2 * y3) (x3 * y2) < 0 ∨ 0 ≤ cmpZ (x1 * y3) (x3 * y1)) := by
  have key : ∀ {x1 y1 x2 y2 x3 y3 : Int}, 0 < y1 → 0 < y2 → 0 < y3 → x1 * y2 ≤ x2 * y1 → x2 * y3 ≤ x3 * y2 → x1 * y3 ≤ x3 * y1 := by
    intro x1 y1 x2 y2 x3 y3 h1 h2 h3 ha hb
    have e1 := Int.mul_le_mul_of_nonneg_right ha (Int.le_of_lt h3)
    have e2 := Int.mul_le_mul_of_nonneg_right hb (Int.le_of_lt h1)
    have e3 : (x1 * y3) * y2 ≤ (x3 * y1) * y2 := by
      have a1 : x1 * y2 * y3 = x1 * y3 * y2 := by rw [Int.mul_right_comm]
      have a2 : x2 * y1 * y3 = x2 * y3 * y1 := by rw [Int.mul_right_comm]
      have a3 : x3 * y2 * y1 = x3 * y1 * y2 := by rw [Int.mul_right_comm]
      omega
    exact Int.le_of_mul_le_mul_right e3 h2
  have pos : ∀ a b : Int, (0 < cmpZ a b ↔ b < a) ∧ (cmpZ a b < 0 ↔ a < b) := fun a b => by unfold cmpZ; split <;> (try split) <;> omega
  constructor
  · rcases (by omega : x2 * y1 < x1 * y2 ∨ x1 * y2 ≤ x2 * y1) with h | h
    · exact .inl ((pos _ _).1.2 h)
    rcases (by omega : x3 * y2 < x2 * y3 ∨ x2 * y3 ≤ x3 * y2) with k | k
    · exact .inr (.inl ((pos _ _).1.2 k))
    · have := key h1 h2 h3 h k
      have q := (pos (x1 * y3) (x3 * y1)).1
      exact .inr (.inr (by omega))
  · rcases (by omega : x1 * y2 < x2 * y1 ∨ x2 * y1 ≤ x1 * y2) with h | h
    · exact .inl ((pos _ _).2.2 h)
    rcases (by omega : x2 * y3 < x3 * y2 ∨ x3 * y2 ≤ x2 * y3) with k | k
    · exact .inr (.inl ((pos _ _).2.2 k))
    · have := key h3 h2 h1 k h
      have q := (pos (x1 * y3) (x3 * y1)).2
      exact .inr (.inr (by omega))

set_option maxRecDepth 100000 in
set_option maxHeartbeats 4000000 in
theorem fracOrder_walk (na nb nc nd ne nf : Bool) (Aa Ab Ac Ad Ae Af : Option Addr) (la lb lc ld le lf : List Nat) (ca cb cc cd ce cf : Nat) (w : World) (hsa : Sl w Aa la ca) (hsb : Sl w Ab lb cb) (hsc : Sl w Ac lc cc) (hsd : Sl w Ad ld cd) (hse : Sl w Ae le ce) (hsf : Sl w Af lf cf) :
    Calls Tryz.prog 6 #[.agg #[.bool na, .slice Aa la.length ca, .bool nb, .slice Ab lb.length cb], .agg #[.bool nc, .slice Ac lc.length cc, .bool nd, .slice Ad ld.length cd], .agg #[.bool ne, .slice Ae le.length ce, .bool nf, .slice Af lf.length cf]] w fun e w' => e = .returned (.bool true) ∧ Below w.heap.size w w' := by
  have Sa1 := Lib.hid hsa
  have Sa2 := Lib.hid hsb
  have Sb1 := Lib.hid hsc
  have Sb2 := Lib.hid hsd
  have Sc1 := Lib.hid hse
  have Sc2 := Lib.hid hsf
  have B : Hid (Below w.heap.size w w) := Below.refl _ _
  cases hlong : longF na la nb lb nc lc nd ld ne le nf lf with
  | true =>
    have HL := Lib.hid hlong
    clear hlong hsa hsb hsc hsd hse hsf
    go_enter Tryz.func6, Tryz.ntmps6
    go_wp2_with fail
    refine (alive_true _).mono ?_
    rintro e w1 ⟨rfl, hb⟩
    replace Sa1 : Hid (Sl w1 Aa la ca) := Sl.below (((Sa1.out.alloc _).alloc _).alloc _) hb
    replace Sa2 : Hid (Sl w1 Ab lb cb) := Sl.below (((Sa2.out.alloc _).alloc _).alloc _) hb
    replace Sb1 : Hid (Sl w1 Ac lc cc) := Sl.below (((Sb1.out.alloc _).alloc _).alloc _) hb
    replace Sb2 : Hid (Sl w1 Ad ld cd) := Sl.below (((Sb2.out.alloc _).alloc _).alloc _) hb
    replace Sc1 : Hid (Sl w1 Ae le ce) := Sl.below (((Sc1.out.alloc _).alloc _).alloc _) hb
    replace Sc2 : Hid (Sl w1 Af lf cf) := Sl.below (((Sc2.out.alloc _).alloc _).alloc _) hb
    have Ka : Hid (Cf w1 w.heap.size na Aa la.length ca nb Ab lb.length cb) := Cf.keep (Cf.keep (Cf.keep (Cf.fresh (by simp) _ _ _ _ _ _ _ _ _) (blw1 _ _)) (blw1 _ _)) hb
    have Kb : Hid (Cf w1 (w.heap.size + 1) nc Ac lc.length cc nd Ad ld.length cd) := Cf.keep (Cf.keep (Cf.fresh (by simp) _ _ _ _ _ _ _ _ _) (blw1 _ _)) hb
    have Kc : Hid (Cf w1 (w.heap.size + 1 + 1) ne Ae le.length ce nf Af lf.length cf) := Cf.keep (Cf.fresh (by simp) _ _ _ _ _ _ _ _ _) hb
    replace B : Hid (Below w.heap.size w w1) := below_mono (below_mono (below_mono (below_mono B.out (blw1 _ _)) (blw1 _ _)) (blw1 _ _)) hb
    clear hb
    have hza : w.heap.size < w1.heap.size := lt_of_cell (a := ⟨w.heap.size, 0, none⟩) Ka.out.1
    have hzb : w.heap.size + 1 < w1.heap.size := lt_of_cell (a := ⟨w.heap.size + 1, 0, none⟩) Kb.out.1
    have hzc : w.heap.size + 1 + 1 < w1.heap.size := lt_of_cell (a := ⟨w.heap.size + 1 + 1, 0, none⟩) Kc.out.1
    obtain ⟨qa0, qa1, qa2, qa3⟩ := Ka.out
    obtain ⟨qb0, qb1, qb2, qb3⟩ := Kb.out
    obtain ⟨qc0, qc1, qc2, qc3⟩ := Kc.out
    go_wp2_with fail
    refine (long_any na nb nc nd ne nf _ _ _ _ _ _ la lb lc ld le lf _ _ _ _ _ _ _ Sa1.out Sa2.out Sb1.out Sb2.out Sc1.out Sc2.out).mono ?_
    rw [HL.out]
    rintro e w2 ⟨rfl, hb⟩
    clear qa0 qa1 qa2 qa3 qb0 qb1 qb2 qb3 qc0 qc1 qc2 qc3
    replace Sa1 : Hid (Sl w2 Aa la ca) := Sl.below Sa1.out hb
    replace Sa2 : Hid (Sl w2 Ab lb cb) := Sl.below Sa2.out hb
    replace Sb1 : Hid (Sl w2 Ac lc cc) := Sl.below Sb1.out hb
    replace Sb2 : Hid (Sl w2 Ad ld cd) := Sl.below Sb2.out hb
    replace Sc1 : Hid (Sl w2 Ae le ce) := Sl.below Sc1.out hb
    replace Sc2 : Hid (Sl w2 Af lf cf) := Sl.below Sc2.out hb
    replace Ka : Hid (Cf w2 w.heap.size na Aa la.length ca nb Ab lb.length cb) := Cf.keep Ka.out hb
    replace Kb : Hid (Cf w2 (w.heap.size + 1) nc Ac lc.length cc nd Ad ld.length cd) := Cf.keep Kb.out hb
    replace Kc : Hid (Cf w2 (w.heap.size + 1 + 1) ne Ae le.length ce nf Af lf.length cf) := Cf.keep Kc.out hb
    replace B : Hid (Below w.heap.size w w2) := below_mono B.out hb
    clear hb
    replace hza : w.heap.size < w2.heap.size := lt_of_cell (a := ⟨w.heap.size, 0, none⟩) Ka.out.1
    replace hzb : w.heap.size + 1 < w2.heap.size := lt_of_cell (a := ⟨w.heap.size + 1, 0, none⟩) Kb.out.1
    replace hzc : w.heap.size + 1 + 1 < w2.heap.size := lt_of_cell (a := ⟨w.heap.size + 1 + 1, 0, none⟩) Kc.out.1
    go_wp2
    go_ret
    exact ⟨rfl, B.out⟩
  | false =>
    obtain ⟨va, vb, vc⟩ := long_facts3 hsa.lim hsb.lim hsc.lim hsd.lim hse.lim hsf.lim hlong
    have HL := Lib.hid hlong
    obtain ⟨⟨⟨ns1, ls1⟩, ⟨ns2, ls2⟩⟩, p, q, e4', vd, e1', hpx, heq⟩ := order_facts va vb
    obtain ⟨-, p2, -, -, -, e2', hpy, -⟩ := order_facts vb vc
    obtain ⟨-, p3, -, -, -, e3', hpz, -⟩ := order_facts va vc
    have hch := order_chain (x1 := zv na la) (x2 := zv nc lc) (x3 := zv ne le) va.vf.pos vb.vf.pos vc.vf.pos
    rw [← hpx, ← hpy, ← hpz] at hch
    dsimp only at e4' vd
    have hsame : Hid (cmpZ p 0 = 0 → (sameB na la nc lc && sameB nb lb nd ld) = true) := fun h => by
      have h2 : zv na la * zv nd ld = zv nc lc * zv nb lb := by rw [hpx] at h; unfold cmpZ at h; split at h <;> (try split at h) <;> omega
      have h3 := heq h2
      simp only [Prod.mk.injEq] at h3
      obtain ⟨⟨r1, r2⟩, r3, r4⟩ := h3
      rw [r1, r2, r3, r4]
      simp [sameB]
    have hneg : Hid (ns1 = decide (p < 0)) := vd.num.neg_eq
    have hlen : Hid (ls1.length = 0 ↔ p = 0) := vd.num.zero
    obtain ⟨x, hx⟩ : ∃ x, x = cmpZ p 0 := ⟨_, rfl⟩
    obtain ⟨y, hy⟩ : ∃ y, y = cmpZ p2 0 := ⟨_, rfl⟩
    obtain ⟨z, hz⟩ : ∃ z, z = cmpZ p3 0 := ⟨_, rfl⟩
    have hxp : Hid ((x = -1 ∧ p < 0) ∨ (x = 0 ∧ p = 0) ∨ (x = 1 ∧ 0 < p)) := by rw [Hid, hx]; unfold cmpZ; split <;> (try split) <;> omega
    have HYC : Hid (y = -1 ∨ y = 0 ∨ y = 1) := by rw [Hid, hy]; exact cmpZ_cases _ _
    have HZC : Hid (z = -1 ∨ z = 0 ∨ z = 1) := by rw [Hid, hz]; exact cmpZ_cases _ _
    rw [← hx] at e1' hch hsame
    rw [← hy] at e2' hch
    rw [← hz] at e3' hch
    have E1 := Lib.hid e1'
    have E2 := Lib.hid e2'
    have E3 := Lib.hid e3'
    have E4 := Lib.hid e4'
    have HC := Lib.hid hch
    clear hlong hsa hsb hsc hsd hse hsf va vb vc vd e1' e2' e3' e4' hpx hpy hpz heq hch hx hy hz
    go_enter Tryz.func6, Tryz.ntmps6
    go_wp2_with fail
    refine (alive_true _).mono ?_
    rintro e w1 ⟨rfl, hb⟩
    replace Sa1 : Hid (Sl w1 Aa la ca) := Sl.below (((Sa1.out.alloc _).alloc _).alloc _) hb
    replace Sa2 : Hid (Sl w1 Ab lb cb) := Sl.below (((Sa2.out.alloc _).alloc _).alloc _) hb
    replace Sb1 : Hid (Sl w1 Ac lc cc) := Sl.below (((Sb1.out.alloc _).alloc _).alloc _) hb
    replace Sb2 : Hid (Sl w1 Ad ld cd) := Sl.below (((Sb2.out.alloc _).alloc _).alloc _) hb
    replace Sc1 : Hid (Sl w1 Ae le ce) := Sl.below (((Sc1.out.alloc _).alloc _).alloc _) hb
    replace Sc2 : Hid (Sl w1 Af lf cf) := Sl.below (((Sc2.out.alloc _).alloc _).alloc _) hb
    have Ka : Hid (Cf w1 w.heap.size na Aa la.length ca nb Ab lb.length cb) := Cf.keep (Cf.keep (Cf.keep (Cf.fresh (by simp) _ _ _ _ _ _ _ _ _) (blw1 _ _)) (blw1 _ _)) hb
    have Kb : Hid (Cf w1 (w.heap.size + 1) nc Ac lc.length cc nd Ad ld.length cd) := Cf.keep (Cf.keep (Cf.fresh (by simp) _ _ _ _ _ _ _ _ _) (blw1 _ _)) hb
    have Kc : Hid (Cf w1 (w.heap.size + 1 + 1) ne Ae le.length ce nf Af lf.length cf) := Cf.keep (Cf.fresh (by simp) _ _ _ _ _ _ _ _ _) hb
    replace B : Hid (Below w.heap.size w w1) := below_mono (below_mono (below_mono (below_mono B.out (blw1 _ _)) (blw1 _ _)) (blw1 _ _)) hb
    clear hb
    have hza : w.heap.size < w1.heap.size := lt_of_cell (a := ⟨w.heap.size, 0, none⟩) Ka.out.1
    have hzb : w.heap.size + 1 < w1.heap.size := lt_of_cell (a := ⟨w.heap.size + 1, 0, none⟩) Kb.out.1
    have hzc : w.heap.size + 1 + 1 < w1.heap.size := lt_of_cell (a := ⟨w.heap.size + 1 + 1, 0, none⟩) Kc.out.1
    obtain ⟨qa0, qa1, qa2, qa3⟩ := Ka.out
    obtain ⟨qb0, qb1, qb2, qb3⟩ := Kb.out
    obtain ⟨qc0, qc1, qc2, qc3⟩ := Kc.out
    go_wp2_with fail
    refine (long_any na nb nc nd ne nf _ _ _ _ _ _ la lb lc ld le lf _ _ _ _ _ _ _ Sa1.out Sa2.out Sb1.out Sb2.out Sc1.out Sc2.out).mono ?_
    rw [HL.out]
    rintro e w2 ⟨rfl, hb⟩
    clear qa0 qa1 qa2 qa3 qb0 qb1 qb2 qb3 qc0 qc1 qc2 qc3
    replace Sa1 : Hid (Sl w2 Aa la ca) := Sl.below Sa1.out hb
    replace Sa2 : Hid (Sl w2 Ab lb cb) := Sl.below Sa2.out hb
    replace Sb1 : Hid (Sl w2 Ac lc cc) := Sl.below Sb1.out hb
    replace Sb2 : Hid (Sl w2 Ad ld cd) := Sl.below Sb2.out hb
    replace Sc1 : Hid (Sl w2 Ae le ce) := Sl.below Sc1.out hb
    replace Sc2 : Hid (Sl w2 Af lf cf) := Sl.below Sc2.out hb
    replace Ka : Hid (Cf w2 w.heap.size na Aa la.length ca nb Ab lb.length cb) := Cf.keep Ka.out hb
    replace Kb : Hid (Cf w2 (w.heap.size + 1) nc Ac lc.length cc nd Ad ld.length cd) := Cf.keep Kb.out hb
    replace Kc : Hid (Cf w2 (w.heap.size + 1 + 1) ne Ae le.length ce nf Af lf.length cf) := Cf.keep Kc.out hb
    replace B : Hid (Below w.heap.size w w2) := below_mono B.out hb
    clear hb
    replace hza : w.heap.size < w2.heap.size := lt_of_cell (a := ⟨w.heap.size, 0, none⟩) Ka.out.1
    replace hzb : w.heap.size + 1 < w2.heap.size := lt_of_cell (a := ⟨w.heap.size + 1, 0, none⟩) Kb.out.1
    replace hzc : w.heap.size + 1 + 1 < w2.heap.size := lt_of_cell (a := ⟨w.heap.size + 1 + 1, 0, none⟩) Kc.out.1
    obtain ⟨qa0, qa1, qa2, qa3⟩ := Ka.out
    obtain ⟨qb0, qb1, qb2, qb3⟩ := Kb.out
    go_wp2_with fail
    refine (fcmp_any na nb nc nd _ _ _ _ la lb lc ld _ _ _ _ _ Sa1.out Sa2.out Sb1.out Sb2.out).mono ?_
    rw [E1.out]
    rintro e w3 ⟨rfl, hb⟩
    clear qa0 qa1 qa2 qa3 qb0 qb1 qb2 qb3
    replace Sa1 : Hid (Sl w3 Aa la ca) := Sl.below Sa1.out hb
    replace Sa2 : Hid (Sl w3 Ab lb cb) := Sl.below Sa2.out hb
    replace Sb1 : Hid (Sl w3 Ac lc cc) := Sl.below Sb1.out hb
    replace Sb2 : Hid (Sl w3 Ad ld cd) := Sl.below Sb2.out hb
    replace Sc1 : Hid (Sl w3 Ae le ce) := Sl.below Sc1.out hb
    replace Sc2 : Hid (Sl w3 Af lf cf) := Sl.below Sc2.out hb
    replace Ka : Hid (Cf w3 w.heap.size na Aa la.length ca nb Ab lb.length cb) := Cf.keep Ka.out hb
    replace Kb : Hid (Cf w3 (w.heap.size + 1) nc Ac lc.length cc nd Ad ld.length cd) := Cf.keep Kb.out hb
    replace Kc : Hid (Cf w3 (w.heap.size + 1 + 1) ne Ae le.length ce nf Af lf.length cf) := Cf.keep Kc.out hb
    replace B : Hid (Below w.heap.size w w3) := below_mono B.out hb
    clear hb
    replace hza : w.heap.size < w3.heap.size := lt_of_cell (a := ⟨w.heap.size, 0, none⟩) Ka.out.1
    replace hzb : w.heap.size + 1 < w3.heap.size := lt_of_cell (a := ⟨w.heap.size + 1, 0, none⟩) Kb.out.1
    replace hzc : w.heap.size + 1 + 1 < w3.heap.size := lt_of_cell (a := ⟨w.heap.size + 1 + 1, 0, none⟩) Kc.out.1
    obtain ⟨qb0, qb1, qb2, qb3⟩ := Kb.out
    obtain ⟨qc0, qc1, qc2, qc3⟩ := Kc.out
    go_wp2_with fail
    refine (fcmp_any nc nd ne nf _ _ _ _ lc ld le lf _ _ _ _ _ Sb1.out Sb2.out Sc1.out Sc2.out).mono ?_
    rw [E2.out]
    rintro e w4 ⟨rfl, hb⟩
    clear qb0 qb1 qb2 qb3 qc0 qc1 qc2 qc3
    replace Sa1 : Hid (Sl w4 Aa la ca) := Sl.below Sa1.out hb
    replace Sa2 : Hid (Sl w4 Ab lb cb) := Sl.below Sa2.out hb
    replace Sb1 : Hid (Sl w4 Ac lc cc) := Sl.below Sb1.out hb
    replace Sb2 : Hid (Sl w4 Ad ld cd) := Sl.below Sb2.out hb
    replace Sc1 : Hid (Sl w4 Ae le ce) := Sl.below Sc1.out hb
    replace Sc2 : Hid (Sl w4 Af lf cf) := Sl.below Sc2.out hb
    replace Ka : Hid (Cf w4 w.heap.size na Aa la.length ca nb Ab lb.length cb) := Cf.keep Ka.out hb
    replace Kb : Hid (Cf w4 (w.heap.size + 1) nc Ac lc.length cc nd Ad ld.length cd) := Cf.keep Kb.out hb
    replace Kc : Hid (Cf w4 (w.heap.size + 1 + 1) ne Ae le.length ce nf Af lf.length cf) := Cf.keep Kc.out hb
    replace B : Hid (Below w.heap.size w w4) := below_mono B.out hb
    clear hb
    replace hza : w.heap.size < w4.heap.size := lt_of_cell (a := ⟨w.heap.size, 0, none⟩) Ka.out.1
    replace hzb : w.heap.size + 1 < w4.heap.size := lt_of_cell (a := ⟨w.heap.size + 1, 0, none⟩) Kb.out.1
    replace hzc : w.heap.size + 1 + 1 < w4.heap.size := lt_of_cell (a := ⟨w.heap.size + 1 + 1, 0, none⟩) Kc.out.1
    obtain ⟨qa0, qa1, qa2, qa3⟩ := Ka.out
    obtain ⟨qc0, qc1, qc2, qc3⟩ := Kc.out
    go_wp2_with fail
    refine (fcmp_any na nb ne nf _ _ _ _ la lb le lf _ _ _ _ _ Sa1.out Sa2.out Sc1.out Sc2.out).mono ?_
    rw [E3.out]
    rintro e w5 ⟨rfl, hb⟩
    clear qa0 qa1 qa2 qa3 qc0 qc1 qc2 qc3
    replace Sa1 : Hid (Sl w5 Aa la ca) := Sl.below Sa1.out hb
    replace Sa2 : Hid (Sl w5 Ab lb cb) := Sl.below Sa2.out hb
    replace Sb1 : Hid (Sl w5 Ac lc cc) := Sl.below Sb1.out hb
    replace Sb2 : Hid (Sl w5 Ad ld cd) := Sl.below Sb2.out hb
    replace Sc1 : Hid (Sl w5 Ae le ce) := Sl.below Sc1.out hb
    replace Sc2 : Hid (Sl w5 Af lf cf) := Sl.below Sc2.out hb
    replace Ka : Hid (Cf w5 w.heap.size na Aa la.length ca nb Ab lb.length cb) := Cf.keep Ka.out hb
    replace Kb : Hid (Cf w5 (w.heap.size + 1) nc Ac lc.length cc nd Ad ld.length cd) := Cf.keep Kb.out hb
    replace Kc : Hid (Cf w5 (w.heap.size + 1 + 1) ne Ae le.length ce nf Af lf.length cf) := Cf.keep Kc.out hb
    replace B : Hid (Below w.heap.size w w5) := below_mono B.out hb
    clear hb
    replace hza : w.heap.size < w5.heap.size := lt_of_cell (a := ⟨w.heap.size, 0, none⟩) Ka.out.1
    replace hzb : w.heap.size + 1 < w5.heap.size := lt_of_cell (a := ⟨w.heap.size + 1, 0, none⟩) Kb.out.1
    replace hzc : w.heap.size + 1 + 1 < w5.heap.size := lt_of_cell (a := ⟨w.heap.size + 1 + 1, 0, none⟩) Kc.out.1
    clear Sc1
    clear Sc2
    clear Kc
    obtain ⟨qa0, qa1, qa2, qa3⟩ := Ka.out
    obtain ⟨qb0, qb1, qb2, qb3⟩ := Kb.out
    go_wp2_with fail
    refine (fsub_good na nb nc nd _ _ _ _ la lb lc ld _ _ _ _ ((congrArg Prod.snd E4.out)) _ Sa1.out Sa2.out Sb1.out Sb2.out).mono ?_
    rw [E4.out]
    rintro e w6 ⟨A6, c6, B6, d6, rfl, hs6, ht6, hb⟩
    clear qa0 qa1 qa2 qa3 qb0 qb1 qb2 qb3
    replace Sa1 : Hid (Sl w6 Aa la ca) := Sl.below Sa1.out hb
    replace Sa2 : Hid (Sl w6 Ab lb cb) := Sl.below Sa2.out hb
    replace Sb1 : Hid (Sl w6 Ac lc cc) := Sl.below Sb1.out hb
    replace Sb2 : Hid (Sl w6 Ad ld cd) := Sl.below Sb2.out hb
    replace Ka : Hid (Cf w6 w.heap.size na Aa la.length ca nb Ab lb.length cb) := Cf.keep Ka.out hb
    replace Kb : Hid (Cf w6 (w.heap.size + 1) nc Ac lc.length cc nd Ad ld.length cd) := Cf.keep Kb.out hb
    replace B : Hid (Below w.heap.size w w6) := below_mono B.out hb
    clear hb
    (try dsimp only at hs6 ht6)
    (try dsimp only)
    have Sd1 : Hid (Sl w6 A6 ls1 c6) := hs6
    clear hs6
    have Sd2 : Hid (Sl w6 B6 ls2 d6) := ht6
    clear ht6
    replace hza : w.heap.size < w6.heap.size := lt_of_cell (a := ⟨w.heap.size, 0, none⟩) Ka.out.1
    replace hzb : w.heap.size + 1 < w6.heap.size := lt_of_cell (a := ⟨w.heap.size + 1, 0, none⟩) Kb.out.1
    have hkad := hza
    have hkbd := hzb
    obtain ⟨qa0, qa1, qa2, qa3⟩ := Ka.out
    obtain ⟨qb0, qb1, qb2, qb3⟩ := Kb.out
    go_upto_region 10 with fail
    rcases hxp.out with ⟨rfl, hp⟩ | ⟨rfl, hp⟩ | ⟨rfl, hp⟩
    · obtain rfl : ns1 = true := by rw [hneg.out]; exact decide_eq_true (by omega)
      have hl : 0 < ls1.length := by have := hlen.out; omega
      clear hp hneg hlen hsame
      rcases HYC.out with rfl | rfl | rfl <;> rcases HZC.out with rfl | rfl | rfl
      all_goals first
        | exact absurd HC.out (by decide)
        | (clear HC hxp HYC HZC; go_wp2; go_ret; exact ⟨rfl, (below_mono B.out (blw1 _ _))⟩)
    · have hl : ¬ 0 < ls1.length := by have := hlen.out; omega
      have hs0 : Hid ((sameB na la nc lc && sameB nb lb nd ld) = true) := hsame.out rfl
      clear hp hneg hlen hsame
      rcases HYC.out with rfl | rfl | rfl <;> rcases HZC.out with rfl | rfl | rfl
      all_goals first
        | exact absurd HC.out (by decide)
        | (clear HC hxp HYC HZC
           go_wp2_with fail
           refine (fsameF_any na nb nc nd _ _ _ _ la lb lc ld _ _ _ _ _ (Sa1.out.alloc _) (Sa2.out.alloc _) (Sb1.out.alloc _) (Sb2.out.alloc _)).mono ?_
           rw [hs0.out]
           rintro e w7 ⟨rfl, hb⟩
           clear qa0 qa1 qa2 qa3 qb0 qb1 qb2 qb3
           replace Sa1 : Hid (Sl w7 Aa la ca) := Sl.below (Sa1.out.alloc _) hb
           replace Sa2 : Hid (Sl w7 Ab lb cb) := Sl.below (Sa2.out.alloc _) hb
           replace Sb1 : Hid (Sl w7 Ac lc cc) := Sl.below (Sb1.out.alloc _) hb
           replace Sb2 : Hid (Sl w7 Ad ld cd) := Sl.below (Sb2.out.alloc _) hb
           replace Sd1 : Hid (Sl w7 A6 ls1 c6) := Sl.below (Sd1.out.alloc _) hb
           replace Sd2 : Hid (Sl w7 B6 ls2 d6) := Sl.below (Sd2.out.alloc _) hb
           replace Ka : Hid (Cf w7 w.heap.size na Aa la.length ca nb Ab lb.length cb) := Cf.keep (Cf.keep Ka.out (blw1 _ _)) hb
           replace Kb : Hid (Cf w7 (w.heap.size + 1) nc Ac lc.length cc nd Ad ld.length cd) := Cf.keep (Cf.keep Kb.out (blw1 _ _)) hb
           have Kd : Hid (Cf w7 w6.heap.size ns1 A6 ls1.length c6 ns2 B6 ls2.length d6) := Cf.keep (Cf.fresh (by simp) _ _ _ _ _ _ _ _ _) hb
           replace B : Hid (Below w.heap.size w w7) := below_mono (below_mono B.out (blw1 _ _)) hb
           clear hb
           go_wp2
           go_ret
           exact ⟨rfl, B.out⟩)
    · obtain rfl : ns1 = false := by rw [hneg.out]; exact decide_eq_false (by omega)
      have hl : 0 < ls1.length := by have := hlen.out; omega
      clear hp hneg hlen hsame
      rcases HYC.out with rfl | rfl | rfl <;> rcases HZC.out with rfl | rfl | rfl
      all_goals first
        | exact absurd HC.out (by decide)
        | (clear HC hxp HYC HZC; go_wp2; go_ret; exact ⟨rfl, (below_mono B.out (blw1 _ _))⟩)

end Go.Proofs.YtmelbahbjdogdaaGreatDoor

/- Walks: frac.Neg; the reference's Neg, Cmp, Twin. -/
import Derived.Test.YtmelbahbjdogdaaGreatDoorF10
import Derived.Test.YtmelbahbjdogdaaGreatDoorW1
import Derived.Test.YtmelbahbjdogdaaGreatDoorMem
import Derived.Test.YtmelbahbjdogdaaGreatDoorInv
import Derived.Deep.RegionHeld3
namespace Go.Proofs.YtmelbahbjdogdaaGreatDoor
open Go.RowKit
attribute [local go_sem ↓] Go.wp_at_zero Go.wp_at_succ
theorem cell_far {w : World} {g h i j : Nat} (hne : h ≠ g) (x : Value) : (w.setCell ⟨g, j, none⟩ x).cell? ⟨h, i, none⟩ = w.cell? ⟨h, i, none⟩ :=
  World.cell?_setCell_other _ _ _ _ (by intro e; exact hne (congrArg Addr.block e).symm)

theorem far1 {w : World} {g h j : Nat} {v0 v1 v2 v3 : Value} (hne : h ≠ g) (x : Value) (k : w.cell? ⟨h, 0, none⟩ = some v0 ∧ w.cell? ⟨h, 1, none⟩ = some v1 ∧ w.cell? ⟨h, 2, none⟩ = some v2 ∧ w.cell? ⟨h, 3, none⟩ = some v3) :
    (w.setCell ⟨g, j, none⟩ x).cell? ⟨h, 0, none⟩ = some v0 ∧ (w.setCell ⟨g, j, none⟩ x).cell? ⟨h, 1, none⟩ = some v1 ∧ (w.setCell ⟨g, j, none⟩ x).cell? ⟨h, 2, none⟩ = some v2 ∧ (w.setCell ⟨g, j, none⟩ x).cell? ⟨h, 3, none⟩ = some v3 :=
  ⟨(cell_far hne x).trans k.1, (cell_far hne x).trans k.2.1, (cell_far hne x).trans k.2.2.1, (cell_far hne x).trans k.2.2.2⟩

set_option maxRecDepth 100000 in
set_option maxHeartbeats 2000000 in
theorem rcmpF_any (n1 n2 n3 n4 : Bool) (A1 A2 A3 A4 : Option Addr) (l1 l2 l3 l4 : List Nat) (c1 c2 c3 c4 : Nat) (w : World) (hs1 : Sl w A1 l1 c1) (hs2 : Sl w A2 l2 c2) (hs3 : Sl w A3 l3 c3) (hs4 : Sl w A4 l4 c4) :
    Calls Tryz.prog 34 #[.agg #[.bool n1, .slice A1 l1.length c1, .bool n2, .slice A2 l2.length c2], .agg #[.bool n3, .slice A3 l3.length c3, .bool n4, .slice A4 l4.length c4]] w fun e w' => e = .returned (.tuple #[.int .i64 (cmpF n1 l1 n2 l2 n3 l3 n4 l4).1, .int .i64 (cmpF n1 l1 n2 l2 n3 l3 n4 l4).2]) ∧ Below w.heap.size w w' := by
  have S1 := Lib.hid hs1
  have S2 := Lib.hid hs2
  have S3 := Lib.hid hs3
  have S4 := Lib.hid hs4
  have B : Hid (Below w.heap.size w w) := Below.refl _ _
  cases hb : badF n1 l1 n2 l2 || badF n3 l3 n4 l4 with
  | true =>
    have hr : cmpF n1 l1 n2 l2 n3 l3 n4 l4 = (0, 8) := by unfold cmpF; rw [hb]; rfl
    have e1 : Hid (bothK n1 l1 n2 l2 n3 l3 n4 l4 = 8) := by unfold bothK; rw [hb]; rfl
    rw [hr]
    clear hr hb hs1 hs2 hs3 hs4
    go_enter Tryz.func34, Tryz.ntmps34
    go_wp2_with fail
    refine (rboth_any n1 n2 n3 n4 A1 A2 A3 A4 l1 l2 l3 l4 c1 c2 c3 c4 _ ((S1.out.alloc _).alloc _) ((S2.out.alloc _).alloc _) ((S3.out.alloc _).alloc _) ((S4.out.alloc _).alloc _)).mono ?_
    rw [e1.out]
    rintro e w1 ⟨rfl, hb⟩
    replace S1 := kS2 S1 hb
    replace S2 := kS2 S2 hb
    replace S3 := kS2 S3 hb
    replace S4 := kS2 S4 hb
    have Ka : Hid (Cf w1 w.heap.size n1 A1 l1.length c1 n2 A2 l2.length c2) := Cf.keep (Cf.keep (Cf.fresh (by simp) _ _ _ _ _ _ _ _ _) (blw1 _ _)) hb
    have Kb : Hid (Cf w1 (w.heap.size + 1) n3 A3 l3.length c3 n4 A4 l4.length c4) := Cf.keep (Cf.fresh (by simp) _ _ _ _ _ _ _ _ _) hb
    replace B := kB2 B hb
    clear hb
    obtain ⟨qa0, qa1, qa2, qa3⟩ := Ka.out
    obtain ⟨qb0, qb1, qb2, qb3⟩ := Kb.out
    have hza := lF Ka
    have hzb := lF Kb
    go_wp2_with fail
    refine (rboth_any n1 n2 n3 n4 A1 A2 A3 A4 l1 l2 l3 l4 c1 c2 c3 c4 _ S1.out S2.out S3.out S4.out).mono ?_
    rw [e1.out]
    rintro e w2 ⟨rfl, hb⟩
    clear qa0 qa1 qa2 qa3 qb0 qb1 qb2 qb3
    replace S1 := kS S1 hb
    replace S2 := kS S2 hb
    replace S3 := kS S3 hb
    replace S4 := kS S4 hb
    replace Ka := kF Ka hb
    replace Kb := kF Kb hb
    replace B := kB B hb
    clear hb
    obtain ⟨qa0, qa1, qa2, qa3⟩ := Ka.out
    obtain ⟨qb0, qb1, qb2, qb3⟩ := Kb.out
    replace hza := lF Ka
    replace hzb := lF Kb
    go_wp2
    go_ret2
    exact ⟨rfl, B.out⟩
  | false =>
    obtain ⟨hb1, hb2⟩ := Bool.or_eq_false_iff.1 hb
    have va := vf_of hs1.lim hs2.lim hb1
    have vb := vf_of hs3.lim hs4.lim hb2
    have e1 : Hid (bothK n1 l1 n2 l2 n3 l3 n4 l4 = 0) := by unfold bothK; rw [hb]; rfl
    rw [cmpF_good va vb]
    obtain ⟨h1, h2, hp1, _⟩ := va
    obtain ⟨h3, h4, hp2, _⟩ := vb
    generalize zv n1 l1 = x1 at *
    generalize zv n2 l2 = y1 at *
    generalize zv n3 l3 = x2 at *
    generalize zv n4 l4 = y2 at *
    unfold cmpV
    obtain ⟨⟨⟨n5, l5⟩, k5⟩, r5⟩ : ∃ r, mulS n1 l1 n4 l4 = r := ⟨_, rfl⟩
    obtain ⟨⟨⟨n6, l6⟩, k6⟩, r6⟩ : ∃ r, mulS n3 l3 n2 l2 = r := ⟨_, rfl⟩
    have e5 := Lib.hid r5
    have e6 := Lib.hid r6
    cases f0 : fitB (x1 * y2) with
    | false =>
      rw [if_neg (by simp)]
      obtain rfl : k5 = 16 := by
        rw [mulS_out h1 h4, outZ_bad (fun e => by rw [fitB_iff.2 e] at f0; cases f0)] at r5
        exact (Prod.mk.inj r5).2.symm
      clear hb hb1 hb2 h1 h2 h3 h4 hp1 hp2 hs1 hs2 hs3 hs4 r5 r6 f0
      go_enter Tryz.func34, Tryz.ntmps34
      go_wp2_with fail
      refine (rboth_any n1 n2 n3 n4 A1 A2 A3 A4 l1 l2 l3 l4 c1 c2 c3 c4 _ ((S1.out.alloc _).alloc _) ((S2.out.alloc _).alloc _) ((S3.out.alloc _).alloc _) ((S4.out.alloc _).alloc _)).mono ?_
      rw [e1.out]
      rintro e w1 ⟨rfl, hb⟩
      replace S1 := kS2 S1 hb
      replace S2 := kS2 S2 hb
      replace S3 := kS2 S3 hb
      replace S4 := kS2 S4 hb
      have Ka : Hid (Cf w1 w.heap.size n1 A1 l1.length c1 n2 A2 l2.length c2) := Cf.keep (Cf.keep (Cf.fresh (by simp) _ _ _ _ _ _ _ _ _) (blw1 _ _)) hb
      have Kb : Hid (Cf w1 (w.heap.size + 1) n3 A3 l3.length c3 n4 A4 l4.length c4) := Cf.keep (Cf.fresh (by simp) _ _ _ _ _ _ _ _ _) hb
      replace B := kB2 B hb
      clear hb
      obtain ⟨qa0, qa1, qa2, qa3⟩ := Ka.out
      obtain ⟨qb0, qb1, qb2, qb3⟩ := Kb.out
      have hza := lF Ka
      have hzb := lF Kb
      go_wp2_with fail
      refine (rmul_any _ _ _ _ _ _ _ _ _ S1.out S4.out).mono ?_
      rw [e5.out]
      rintro e w2 ⟨A5, c5, rfl, hs5, hb⟩
      clear qa0 qa1 qa2 qa3 qb0 qb1 qb2 qb3
      replace S1 := kS S1 hb
      replace S2 := kS S2 hb
      replace S3 := kS S3 hb
      replace S4 := kS S4 hb
      replace Ka := kF Ka hb
      replace Kb := kF Kb hb
      replace B := kB B hb
      clear hb
      (try dsimp only at hs5)
      (try dsimp only)
      have S5 : Hid (Sl w2 A5 l5 c5) := hs5
      clear hs5
      obtain ⟨qa0, qa1, qa2, qa3⟩ := Ka.out
      obtain ⟨qb0, qb1, qb2, qb3⟩ := Kb.out
      replace hza := lF Ka
      replace hzb := lF Kb
      have hka5 := hza
      have hkb5 := hzb
      go_wp2_with fail
      refine (rmul_any _ _ _ _ _ _ _ _ _ (S3.out.alloc _) (S2.out.alloc _)).mono ?_
      rw [e6.out]
      rintro e w3 ⟨A6, c6, rfl, hs6, hb⟩
      clear qa0 qa1 qa2 qa3 qb0 qb1 qb2 qb3
      replace S1 := kS1 S1 hb
      replace S2 := kS1 S2 hb
      replace S3 := kS1 S3 hb
      replace S4 := kS1 S4 hb
      replace S5 := kS1 S5 hb
      replace Ka := kF1 Ka hb
      replace Kb := kF1 Kb hb
      have K5 : Hid (Cw w3 w2.heap.size n5 A5 l5.length c5) := Cw.keep (Cw.fresh (by simp) _ _ _ _ _) hb
      replace B := kB1 B hb
      clear hb
      (try dsimp only at hs6)
      (try dsimp only)
      have S6 : Hid (Sl w3 A6 l6 c6) := hs6
      clear hs6
      obtain ⟨q50, q51⟩ := K5.out
      replace hza := lF Ka
      replace hzb := lF Kb
      have hz5 := lW K5
      have hka6 := hza
      have hkb6 := hzb
      have hk56 := hz5
      go_wp2
      go_ret2
      exact ⟨rfl, (below_mono B.out (blw1 _ _))⟩
    | true =>
      obtain ⟨v5, rfl⟩ : VZ n5 l5 (x1 * y2) ∧ k5 = 0 := by
        rw [mulS_z h1 h4 (fitB_iff.1 f0)] at r5
        obtain ⟨e1, e2⟩ := Prod.mk.inj r5
        exact ⟨vz_mk e1.symm (fitB_iff.1 f0), e2.symm⟩
      cases f1 : fitB (x2 * y1) with
      | false =>
        rw [if_neg (by simp)]
        obtain rfl : k6 = 16 := by
          rw [mulS_out h3 h2, outZ_bad (fun e => by rw [fitB_iff.2 e] at f1; cases f1)] at r6
          exact (Prod.mk.inj r6).2.symm
        clear hb hb1 hb2 h1 h2 h3 h4 hp1 hp2 hs1 hs2 hs3 hs4 r5 r6 f0 f1 v5
        go_enter Tryz.func34, Tryz.ntmps34
        go_wp2_with fail
        refine (rboth_any n1 n2 n3 n4 A1 A2 A3 A4 l1 l2 l3 l4 c1 c2 c3 c4 _ ((S1.out.alloc _).alloc _) ((S2.out.alloc _).alloc _) ((S3.out.alloc _).alloc _) ((S4.out.alloc _).alloc _)).mono ?_
        rw [e1.out]
        rintro e w1 ⟨rfl, hb⟩
        replace S1 := kS2 S1 hb
        replace S2 := kS2 S2 hb
        replace S3 := kS2 S3 hb
        replace S4 := kS2 S4 hb
        have Ka : Hid (Cf w1 w.heap.size n1 A1 l1.length c1 n2 A2 l2.length c2) := Cf.keep (Cf.keep (Cf.fresh (by simp) _ _ _ _ _ _ _ _ _) (blw1 _ _)) hb
        have Kb : Hid (Cf w1 (w.heap.size + 1) n3 A3 l3.length c3 n4 A4 l4.length c4) := Cf.keep (Cf.fresh (by simp) _ _ _ _ _ _ _ _ _) hb
        replace B := kB2 B hb
        clear hb
        obtain ⟨qa0, qa1, qa2, qa3⟩ := Ka.out
        obtain ⟨qb0, qb1, qb2, qb3⟩ := Kb.out
        have hza := lF Ka
        have hzb := lF Kb
        go_wp2_with fail
        refine (rmul_any _ _ _ _ _ _ _ _ _ S1.out S4.out).mono ?_
        rw [e5.out]
        rintro e w2 ⟨A5, c5, rfl, hs5, hb⟩
        clear qa0 qa1 qa2 qa3 qb0 qb1 qb2 qb3
        replace S1 := kS S1 hb
        replace S2 := kS S2 hb
        replace S3 := kS S3 hb
        replace S4 := kS S4 hb
        replace Ka := kF Ka hb
        replace Kb := kF Kb hb
        replace B := kB B hb
        clear hb
        (try dsimp only at hs5)
        (try dsimp only)
        have S5 : Hid (Sl w2 A5 l5 c5) := hs5
        clear hs5
        obtain ⟨qa0, qa1, qa2, qa3⟩ := Ka.out
        obtain ⟨qb0, qb1, qb2, qb3⟩ := Kb.out
        replace hza := lF Ka
        replace hzb := lF Kb
        have hka5 := hza
        have hkb5 := hzb
        go_wp2_with fail
        refine (rmul_any _ _ _ _ _ _ _ _ _ (S3.out.alloc _) (S2.out.alloc _)).mono ?_
        rw [e6.out]
        rintro e w3 ⟨A6, c6, rfl, hs6, hb⟩
        clear qa0 qa1 qa2 qa3 qb0 qb1 qb2 qb3
        replace S1 := kS1 S1 hb
        replace S2 := kS1 S2 hb
        replace S3 := kS1 S3 hb
        replace S4 := kS1 S4 hb
        replace S5 := kS1 S5 hb
        replace Ka := kF1 Ka hb
        replace Kb := kF1 Kb hb
        have K5 : Hid (Cw w3 w2.heap.size n5 A5 l5.length c5) := Cw.keep (Cw.fresh (by simp) _ _ _ _ _) hb
        replace B := kB1 B hb
        clear hb
        (try dsimp only at hs6)
        (try dsimp only)
        have S6 : Hid (Sl w3 A6 l6 c6) := hs6
        clear hs6
        obtain ⟨q50, q51⟩ := K5.out
        replace hza := lF Ka
        replace hzb := lF Kb
        have hz5 := lW K5
        have hka6 := hza
        have hkb6 := hzb
        have hk56 := hz5
        go_wp2
        go_ret2
        exact ⟨rfl, (below_mono B.out (blw1 _ _))⟩
      | true =>
        obtain ⟨v6, rfl⟩ : VZ n6 l6 (x2 * y1) ∧ k6 = 0 := by
          rw [mulS_z h3 h2 (fitB_iff.1 f1)] at r6
          obtain ⟨e1, e2⟩ := Prod.mk.inj r6
          exact ⟨vz_mk e1.symm (fitB_iff.1 f1), e2.symm⟩
        rw [if_pos (by simp)]
        obtain ⟨k, hk⟩ : ∃ k, k = cmpZ (x1 * y2) (x2 * y1) := ⟨_, rfl⟩
        have e7 : Hid (cmpW n5 l5 n6 l6 = k) := by rw [Hid, cmpW_z v5 v6, hk]
        rw [← hk]
        clear hb hb1 hb2 h1 h2 h3 h4 hp1 hp2 hs1 hs2 hs3 hs4 r5 r6 f0 f1 v5 v6 hk
        go_enter Tryz.func34, Tryz.ntmps34
        go_wp2_with fail
        refine (rboth_any n1 n2 n3 n4 A1 A2 A3 A4 l1 l2 l3 l4 c1 c2 c3 c4 _ ((S1.out.alloc _).alloc _) ((S2.out.alloc _).alloc _) ((S3.out.alloc _).alloc _) ((S4.out.alloc _).alloc _)).mono ?_
        rw [e1.out]
        rintro e w1 ⟨rfl, hb⟩
        replace S1 := kS2 S1 hb
        replace S2 := kS2 S2 hb
        replace S3 := kS2 S3 hb
        replace S4 := kS2 S4 hb
        have Ka : Hid (Cf w1 w.heap.size n1 A1 l1.length c1 n2 A2 l2.length c2) := Cf.keep (Cf.keep (Cf.fresh (by simp) _ _ _ _ _ _ _ _ _) (blw1 _ _)) hb
        have Kb : Hid (Cf w1 (w.heap.size + 1) n3 A3 l3.length c3 n4 A4 l4.length c4) := Cf.keep (Cf.fresh (by simp) _ _ _ _ _ _ _ _ _) hb
        replace B := kB2 B hb
        clear hb
        obtain ⟨qa0, qa1, qa2, qa3⟩ := Ka.out
        obtain ⟨qb0, qb1, qb2, qb3⟩ := Kb.out
        have hza := lF Ka
        have hzb := lF Kb
        go_wp2_with fail
        refine (rmul_any _ _ _ _ _ _ _ _ _ S1.out S4.out).mono ?_
        rw [e5.out]
        rintro e w2 ⟨A5, c5, rfl, hs5, hb⟩
        clear qa0 qa1 qa2 qa3 qb0 qb1 qb2 qb3
        replace S1 := kS S1 hb
        replace S2 := kS S2 hb
        replace S3 := kS S3 hb
        replace S4 := kS S4 hb
        replace Ka := kF Ka hb
        replace Kb := kF Kb hb
        replace B := kB B hb
        clear hb
        (try dsimp only at hs5)
        (try dsimp only)
        have S5 : Hid (Sl w2 A5 l5 c5) := hs5
        clear hs5
        obtain ⟨qa0, qa1, qa2, qa3⟩ := Ka.out
        obtain ⟨qb0, qb1, qb2, qb3⟩ := Kb.out
        replace hza := lF Ka
        replace hzb := lF Kb
        have hka5 := hza
        have hkb5 := hzb
        go_wp2_with fail
        refine (rmul_any _ _ _ _ _ _ _ _ _ (S3.out.alloc _) (S2.out.alloc _)).mono ?_
        rw [e6.out]
        rintro e w3 ⟨A6, c6, rfl, hs6, hb⟩
        clear qa0 qa1 qa2 qa3 qb0 qb1 qb2 qb3
        replace S1 := kS1 S1 hb
        replace S2 := kS1 S2 hb
        replace S3 := kS1 S3 hb
        replace S4 := kS1 S4 hb
        replace S5 := kS1 S5 hb
        replace Ka := kF1 Ka hb
        replace Kb := kF1 Kb hb
        have K5 : Hid (Cw w3 w2.heap.size n5 A5 l5.length c5) := Cw.keep (Cw.fresh (by simp) _ _ _ _ _) hb
        replace B := kB1 B hb
        clear hb
        (try dsimp only at hs6)
        (try dsimp only)
        have S6 : Hid (Sl w3 A6 l6 c6) := hs6
        clear hs6
        obtain ⟨q50, q51⟩ := K5.out
        replace hza := lF Ka
        replace hzb := lF Kb
        have hz5 := lW K5
        have hka6 := hza
        have hkb6 := hzb
        have hk56 := hz5
        go_wp2_with fail
        refine (rcompared_any n5 n6 _ _ l5 l6 _ _ _ (S5.out.alloc _) (S6.out.alloc _)).mono ?_
        rw [e7.out]
        rintro e w4 ⟨rfl, hb⟩
        clear q50 q51
        replace S1 := kS1 S1 hb
        replace S2 := kS1 S2 hb
        replace S3 := kS1 S3 hb
        replace S4 := kS1 S4 hb
        replace S5 := kS1 S5 hb
        replace S6 := kS1 S6 hb
        replace Ka := kF1 Ka hb
        replace Kb := kF1 Kb hb
        replace K5 := kW1 K5 hb
        have K6 : Hid (Cw w4 w3.heap.size n6 A6 l6.length c6) := Cw.keep (Cw.fresh (by simp) _ _ _ _ _) hb
        replace B := kB1 B hb
        clear hb
        go_wp2
        go_ret2
        exact ⟨rfl, B.out⟩

end Go.Proofs.YtmelbahbjdogdaaGreatDoor
/- Walk: frac.Cmp. -/
namespace Go.Proofs.YtmelbahbjdogdaaGreatDoor
open Go.RowKit
attribute [local go_sem ↓] Go.wp_at_zero Go.wp_at_succ
end Go.Proofs.YtmelbahbjdogdaaGreatDoor
/- Memory: two fractions made at once and laid into boxes, in any order of the steps; the statement 'x, y := Twin(a), Twin(b)'. -/
namespace Go.Proofs.YtmelbahbjdogdaaGreatDoor
open Go.RowKit
attribute [local go_sem ↓] Go.wp_at_zero Go.wp_at_succ
/-- An operation of the region: what it writes, what it does, what it waits for. -/
def OpIsF (ops : Array Oper) (i : Nat) (d : Option Tmp) (op : Op) (waits : List Nat) : Prop :=
  ∃ o, ops[i]? = some o ∧ o.dst = d ∧ o.op = op ∧ o.guard = none ∧ ∀ k ∈ waits, ∃ e ∈ o.after, e.on = k ∧ Region.binds .any e = true

theorem OpIsF.take {ops : Array Oper} {i : Nat} {d : Option Tmp} {op : Op} {ws : List Nat} (h : OpIsF ops i d op ws) {l : Array Bool} (hr : i < ops.size ∧ l.getD i true = false ∧ ∀ o, ops[i]? = some o → ∀ e ∈ o.after, Region.binds .any e = true → l.getD e.on false = true) :
    l.getD i true = false ∧ (∀ k ∈ ws, l.getD k false = true) ∧ ∃ ty pos after, ops[i]? = some ⟨d, op, ty, pos, after, none⟩ := by
  obtain ⟨⟨dst, op', ty, pos, after, guard⟩, hi, rfl, rfl, hg, hw⟩ := h
  simp only at hg
  subst hg
  refine ⟨hr.2.1, fun k hk => ?_, ty, pos, after, hi⟩
  obtain ⟨e, he, rfl, hb⟩ := hw k hk
  exact hr.2.2 _ hi e he hb

/-- A fraction as it lies: signs, slices. -/
structure FV where
  n1 : Bool
  A1 : Option Addr
  m1 : Nat
  c1 : Nat
  n2 : Bool
  A2 : Option Addr
  m2 : Nat
  c2 : Nat

@[reducible] def FV.val (v : FV) : Value := .agg #[.bool v.n1, .slice v.A1 v.m1 v.c1, .bool v.n2, .slice v.A2 v.m2 v.c2]

def CF (W : World) (g : Nat) (v : FV) : Prop := Cf W g v.n1 v.A1 v.m1 v.c1 v.n2 v.A2 v.m2 v.c2

@[reducible] def zf : FV := ⟨false, none, 0, 0, false, none, 0, 0⟩

@[reducible] def putF (W : World) (g : Nat) (v : FV) : World := (((W.setCell ⟨g, 0, none⟩ (.bool v.n1)).setCell ⟨g, 1, none⟩ (.slice v.A1 v.m1 v.c1)).setCell ⟨g, 2, none⟩ (.bool v.n2)).setCell ⟨g, 3, none⟩ (.slice v.A2 v.m2 v.c2)

theorem CF.keep {W W' : World} {g : Nat} {v : FV} (h : CF W g v) (hb : Below W.heap.size W W') : CF W' g v := Cf.keep h hb

theorem CF.put {W : World} {g h : Nat} {v u : FV} (k : CF W h u) (hne : h ≠ g) : CF (putF W g v) h u :=
  far1 hne _ (far1 hne _ (far1 hne _ (far1 hne _ k)))

theorem CF.new {W : World} {g : Nat} {v u : FV} (k : CF W g u) : CF (putF W g v) g v := by
  obtain ⟨h0, h1, h2, h3⟩ := k
  have ne : ∀ i j : Nat, i ≠ j → (⟨g, i, none⟩ : Addr) ≠ ⟨g, j, none⟩ := fun i j hij e => hij (by injection e)
  refine ⟨?_, ?_, ?_, ?_⟩
  · rw [World.cell?_setCell_other _ _ _ _ (ne 3 0 (by decide)), World.cell?_setCell_other _ _ _ _ (ne 2 0 (by decide)), World.cell?_setCell_other _ _ _ _ (ne 1 0 (by decide)), World.cell?_setCell_same _ _ _ h0]
  · rw [World.cell?_setCell_other _ _ _ _ (ne 3 1 (by decide)), World.cell?_setCell_other _ _ _ _ (ne 2 1 (by decide)), World.cell?_setCell_same _ _ _ ((World.cell?_setCell_other _ _ _ _ (ne 0 1 (by decide))).trans h1)]
  · rw [World.cell?_setCell_other _ _ _ _ (ne 3 2 (by decide)), World.cell?_setCell_same _ _ _ ((World.cell?_setCell_other _ _ _ _ (ne 1 2 (by decide))).trans ((World.cell?_setCell_other _ _ _ _ (ne 0 2 (by decide))).trans h2))]
  · exact World.cell?_setCell_same _ _ _ ((World.cell?_setCell_other _ _ _ _ (ne 2 3 (by decide))).trans ((World.cell?_setCell_other _ _ _ _ (ne 1 3 (by decide))).trans ((World.cell?_setCell_other _ _ _ _ (ne 0 3 (by decide))).trans h3)))

structure PF (w : World) (ga gb : Nat) (va vb : FV) (Ta Tb : World → FV → Prop) (d0 d1 d2 d3 d4 d5 d6 d7 : Bool) (u1 u2 u3 u4 u5 u6 : Value) (W : World) (o5 o6 : Option (Nat × FV)) (x1 x2 : Option FV) : Prop where
  b : Below w.heap.size w W
  ka : CF W ga va
  kb : CF W gb vb
  k5 : ∀ g v, o5 = some (g, v) → CF W g v ∧ Ff W g
  k6 : ∀ g v, o6 = some (g, v) → CF W g v ∧ Ff W g
  s1 : ∀ v, x1 = some v → Ta W v
  s2 : ∀ v, x2 = some v → Tb W v
  p0 : d0 = true → u1 = va.val
  p2 : d2 = true → u3 = vb.val
  p1 : d1 = false → x1 = none
  q1 : d1 = true → ∃ v, x1 = some v ∧ u2 = v.val
  p3 : d3 = false → x2 = none
  q3 : d3 = true → ∃ v, x2 = some v ∧ u4 = v.val
  p4 : d4 = false → o5 = none
  q4 : d4 = true → ∃ g v, u5 = .pointer (some ⟨g, 0, none⟩) ∧ o5 = some (g, v) ∧ gb < g ∧ (d6 = false → v = zf) ∧ (d6 = true → x1 = some v)
  p5 : d5 = false → o6 = none
  q5 : d5 = true → ∃ g v, u6 = .pointer (some ⟨g, 0, none⟩) ∧ o6 = some (g, v) ∧ gb < g ∧ (d7 = false → v = zf) ∧ (d7 = true → x2 = some v)
  n6 : d6 = true → d1 = true
  n7 : d7 = true → d3 = true
  m6 : d6 = true → d4 = true
  m7 : d7 = true → d5 = true
  pd : ∀ g v g' v', o5 = some (g, v) → o6 = some (g', v') → g' ≠ g

section
variable {w W W' : World} {ga gb : Nat} {va vb : FV} {Ta Tb : World → FV → Prop} {d0 d1 d2 d3 d4 d5 d6 d7 : Bool} {u1 u2 u3 u4 u5 u6 : Value} {o5 o6 : Option (Nat × FV)} {x1 x2 : Option FV}
theorem PF.done (h : PF w ga gb va vb Ta Tb d0 d1 d2 d3 true true true true u1 u2 u3 u4 u5 u6 W o5 o6 x1 x2) :
    ∃ g5 g6 v5 v6, u5 = .pointer (some ⟨g5, 0, none⟩) ∧ u6 = .pointer (some ⟨g6, 0, none⟩) ∧ gb < g5 ∧ gb < g6 ∧ CF W g5 v5 ∧ CF W g6 v6 ∧ Ta W v5 ∧ Tb W v6 := by
  obtain ⟨g5, v5, rfl, rfl, h5, _, k5⟩ := h.q4 rfl
  obtain ⟨g6, v6, rfl, rfl, h6, _, k6⟩ := h.q5 rfl
  exact ⟨g5, g6, v5, v6, rfl, rfl, h5, h6, (h.k5 _ _ rfl).1, (h.k6 _ _ rfl).1, h.s1 _ (k5 rfl), h.s2 _ (k6 rfl)⟩

end
section
variable {K : Act → World → Prop} {Q : Exit → Act → World → Prop} {a : Act} {W : World} {d : Option Tmp} {ty : TypeId} {pos : String} {after : Array Edge} {s s' g : Nat} {v : FV}
end
end Go.Proofs.YtmelbahbjdogdaaGreatDoor

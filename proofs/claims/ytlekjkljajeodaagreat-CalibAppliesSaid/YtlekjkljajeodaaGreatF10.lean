/- Walks: the reference's both, added, product, Add, Sub, Mul, Div. -/
import Derived.Test.YtlekjkljajeodaaGreatF3
import Derived.Test.YtlekjkljajeodaaGreatFMath
import Derived.Test.YtlekjkljajeodaaGreatF6
import Derived.Test.YtlekjkljajeodaaGreatW20
namespace Go.Proofs.YtlekjkljajeodaaGreat
open Go.RowKit
attribute [local go_sem ↓] Go.wp_at_zero Go.wp_at_succ
def bothK (n1 : Bool) (l1 : List Nat) (n2 : Bool) (l2 : List Nat) (n3 : Bool) (l3 : List Nat) (n4 : Bool) (l4 : List Nat) : Int := if badF n1 l1 n2 l2 || badF n3 l3 n4 l4 then 8 else 0

set_option maxRecDepth 100000 in
set_option maxHeartbeats 2000000 in
theorem rboth_any (n1 n2 n3 n4 : Bool) (A1 A2 A3 A4 : Option Addr) (l1 l2 l3 l4 : List Nat) (c1 c2 c3 c4 : Nat) (w : World) (hs1 : Sl w A1 l1 c1) (hs2 : Sl w A2 l2 c2) (hs3 : Sl w A3 l3 c3) (hs4 : Sl w A4 l4 c4) :
    Calls Tryz.prog 168 #[.agg #[.bool n1, .slice A1 l1.length c1, .bool n2, .slice A2 l2.length c2], .agg #[.bool n3, .slice A3 l3.length c3, .bool n4, .slice A4 l4.length c4]] w fun e w' => e = .returned (.int .i64 (bothK n1 l1 n2 l2 n3 l3 n4 l4)) ∧ Below w.heap.size w w' := by
  have S1 := Lib.hid hs1
  have S2 := Lib.hid hs2
  have S3 := Lib.hid hs3
  have S4 := Lib.hid hs4
  have B : Hid (Below w.heap.size w w) := Below.refl _ _
  cases hb1 : badF n1 l1 n2 l2 with
  | true =>
    have hr : bothK n1 l1 n2 l2 n3 l3 n4 l4 = 8 := by unfold bothK; rw [hb1]; rfl
    have e1 : Hid (chkF n1 l1 n2 l2 = 8) := by unfold chkF; rw [hb1]; rfl
    rw [hr]
    clear hs1 hs2 hs3 hs4 hr hb1
    go_enter Tryz.func168, Tryz.ntmps168
    go_wp2_with fail
    refine (rfcheck_any n1 n2 A1 A2 l1 l2 c1 c2 _ ((S1.out.alloc _).alloc _) ((S2.out.alloc _).alloc _)).mono ?_
    rw [e1.out]
    rintro e w1 ⟨rfl, hb⟩
    replace S1 := kS2 S1 hb
    replace S2 := kS2 S2 hb
    replace S3 := kS2 S3 hb
    replace S4 := kS2 S4 hb
    have Ka : Hid (Cf w1 w.heap.size n1 A1 l1.length c1 n2 A2 l2.length c2) := Cf.keep (Cf.keep (Cf.fresh (by simp) _ _ _ _ _ _ _ _ _) (blw1 _ _)) hb
    have Kb : Hid (Cf w1 (w.heap.size + 1) n3 A3 l3.length c3 n4 A4 l4.length c4) := Cf.keep (Cf.fresh (by simp) _ _ _ _ _ _ _ _ _) hb
    replace B := kB2 B hb
    clear hb
    obtain ⟨qa0, qa1, qa2, qa3⟩ := Ka.out
    obtain ⟨qb0, qb1, qb2, qb3⟩ := Kb.out
    have hza := lF Ka
    have hzb := lF Kb
    go_wp2_with fail
    refine (rfcheck_any n1 n2 A1 A2 l1 l2 c1 c2 _ S1.out S2.out).mono ?_
    rw [e1.out]
    rintro e w2 ⟨rfl, hb⟩
    clear qa0 qa1 qa2 qa3 qb0 qb1 qb2 qb3
    replace S1 := kS S1 hb
    replace S2 := kS S2 hb
    replace S3 := kS S3 hb
    replace S4 := kS S4 hb
    replace Ka := kF Ka hb
    replace Kb := kF Kb hb
    replace B := kB B hb
    clear hb
    obtain ⟨qa0, qa1, qa2, qa3⟩ := Ka.out
    obtain ⟨qb0, qb1, qb2, qb3⟩ := Kb.out
    replace hza := lF Ka
    replace hzb := lF Kb
    go_wp2
    go_ret
    exact ⟨rfl, B.out⟩
  | false =>
    have hr : bothK n1 l1 n2 l2 n3 l3 n4 l4 = chkF n3 l3 n4 l4 := by unfold bothK chkF; rw [hb1]; rfl
    have e1 : Hid (chkF n1 l1 n2 l2 = 0) := by unfold chkF; rw [hb1]; rfl
    obtain ⟨k, hk⟩ : ∃ k, k = chkF n3 l3 n4 l4 := ⟨_, rfl⟩
    have e2 : Hid (chkF n3 l3 n4 l4 = k) := hk.symm
    rw [hr, ← hk]
    clear hs1 hs2 hs3 hs4 hr hb1 hk
    go_enter Tryz.func168, Tryz.ntmps168
    go_wp2_with fail
    refine (rfcheck_any n1 n2 A1 A2 l1 l2 c1 c2 _ ((S1.out.alloc _).alloc _) ((S2.out.alloc _).alloc _)).mono ?_
    rw [e1.out]
    rintro e w1 ⟨rfl, hb⟩
    replace S1 := kS2 S1 hb
    replace S2 := kS2 S2 hb
    replace S3 := kS2 S3 hb
    replace S4 := kS2 S4 hb
    have Ka : Hid (Cf w1 w.heap.size n1 A1 l1.length c1 n2 A2 l2.length c2) := Cf.keep (Cf.keep (Cf.fresh (by simp) _ _ _ _ _ _ _ _ _) (blw1 _ _)) hb
    have Kb : Hid (Cf w1 (w.heap.size + 1) n3 A3 l3.length c3 n4 A4 l4.length c4) := Cf.keep (Cf.fresh (by simp) _ _ _ _ _ _ _ _ _) hb
    replace B := kB2 B hb
    clear hb
    obtain ⟨qa0, qa1, qa2, qa3⟩ := Ka.out
    obtain ⟨qb0, qb1, qb2, qb3⟩ := Kb.out
    have hza := lF Ka
    have hzb := lF Kb
    go_wp2_with fail
    refine (rfcheck_any n3 n4 A3 A4 l3 l4 c3 c4 _ S3.out S4.out).mono ?_
    rw [e2.out]
    rintro e w2 ⟨rfl, hb⟩
    clear qa0 qa1 qa2 qa3 qb0 qb1 qb2 qb3
    replace S1 := kS S1 hb
    replace S2 := kS S2 hb
    replace S3 := kS S3 hb
    replace S4 := kS S4 hb
    replace Ka := kF Ka hb
    replace Kb := kF Kb hb
    replace B := kB B hb
    clear hb
    obtain ⟨qa0, qa1, qa2, qa3⟩ := Ka.out
    obtain ⟨qb0, qb1, qb2, qb3⟩ := Kb.out
    replace hza := lF Ka
    replace hzb := lF Kb
    go_wp2
    go_ret
    exact ⟨rfl, B.out⟩

theorem FRes.alloc {r : ((Bool × List Nat) × (Bool × List Nat)) × Int} {w w' : World} {e : Ending} (h : FRes r w e w') (o : Obj) : FRes r w e (w'.alloc o) := by
  obtain ⟨A, c, A', c', rfl, h1, h2, hb⟩ := h
  exact ⟨A, c, A', c', rfl, h1.alloc o, h2.alloc o, below_mono hb (blw1 _ _)⟩

set_option maxRecDepth 100000 in
set_option maxHeartbeats 2000000 in
theorem rproduct_any (n1 n2 n3 n4 : Bool) (A1 A2 A3 A4 : Option Addr) (l1 l2 l3 l4 : List Nat) (c1 c2 c3 c4 : Nat) (x1 x2 y1 y2 : Int) (h1 : VZ n1 l1 x1) (h2 : VZ n2 l2 x2) (h3 : VZ n3 l3 y1) (h4 : VZ n4 l4 y2) (hden : y1 * y2 ≠ 0) (w : World) (hs1 : Sl w A1 l1 c1) (hs2 : Sl w A2 l2 c2) (hs3 : Sl w A3 l3 c3) (hs4 : Sl w A4 l4 c4) :
    Calls Tryz.prog 169 #[.agg #[.bool n1, .slice A1 l1.length c1], .agg #[.bool n2, .slice A2 l2.length c2], .agg #[.bool n3, .slice A3 l3.length c3], .agg #[.bool n4, .slice A4 l4.length c4]] w (FRes (outF (fitB (x1 * x2) && fitB (y1 * y2)) (x1 * x2) (y1 * y2)) w) := by
  have S1 := Lib.hid hs1
  have S2 := Lib.hid hs2
  have S3 := Lib.hid hs3
  have S4 := Lib.hid hs4
  have B : Hid (Below w.heap.size w w) := Below.refl _ _
  unfold outF
  obtain ⟨⟨⟨n5, l5⟩, k5⟩, r5⟩ : ∃ r, mulS n1 l1 n2 l2 = r := ⟨_, rfl⟩
  obtain ⟨⟨⟨n6, l6⟩, k6⟩, r6⟩ : ∃ r, mulS n3 l3 n4 l4 = r := ⟨_, rfl⟩
  have e5 := Lib.hid r5
  have e6 := Lib.hid r6
  clear hs1 hs2 hs3 hs4
  cases f0 : fitB (x1 * x2) with
  | false =>
    rw [if_neg (by simp)]
    obtain rfl : k5 = 16 := by
      rw [mulS_out h1 h2, outZ_bad (fun e => by rw [fitB_iff.2 e] at f0; cases f0)] at r5
      exact (Prod.mk.inj r5).2.symm
    clear h1 h2 h3 h4 r5 r6 hden f0
    go_enter Tryz.func169, Tryz.ntmps169
    go_wp2_with fail
    refine (rmul_any _ _ _ _ _ _ _ _ _ (((((S1.out.alloc _).alloc _).alloc _).alloc _).alloc _) (((((S2.out.alloc _).alloc _).alloc _).alloc _).alloc _)).mono ?_
    rw [e5.out]
    rintro e w1 ⟨A5, c5, rfl, hs5, hb⟩
    replace S1 : Hid (Sl w1 A1 l1 c1) := Sl.below (((((S1.out.alloc _).alloc _).alloc _).alloc _).alloc _) hb
    replace S2 : Hid (Sl w1 A2 l2 c2) := Sl.below (((((S2.out.alloc _).alloc _).alloc _).alloc _).alloc _) hb
    replace S3 : Hid (Sl w1 A3 l3 c3) := Sl.below (((((S3.out.alloc _).alloc _).alloc _).alloc _).alloc _) hb
    replace S4 : Hid (Sl w1 A4 l4 c4) := Sl.below (((((S4.out.alloc _).alloc _).alloc _).alloc _).alloc _) hb
    have Fo : Hid (Ff w1 (w.heap.size + 1 + 1 + 1 + 1)) := Ff.keep (Ff.fresh (by simp) _ _) (Cf.fresh (by simp) _ _ _ _ _ _ _ _ _) hb
    have Ka : Hid (Cw w1 w.heap.size n1 A1 l1.length c1) := Cw.keep (Cw.keep (Cw.keep (Cw.keep (Cw.keep (Cw.fresh (by simp) _ _ _ _ _) (blw1 _ _)) (blw1 _ _)) (blw1 _ _)) (blw1 _ _)) hb
    have Kb : Hid (Cw w1 (w.heap.size + 1) n2 A2 l2.length c2) := Cw.keep (Cw.keep (Cw.keep (Cw.keep (Cw.fresh (by simp) _ _ _ _ _) (blw1 _ _)) (blw1 _ _)) (blw1 _ _)) hb
    have Kc : Hid (Cw w1 (w.heap.size + 1 + 1) n3 A3 l3.length c3) := Cw.keep (Cw.keep (Cw.keep (Cw.fresh (by simp) _ _ _ _ _) (blw1 _ _)) (blw1 _ _)) hb
    have Kd : Hid (Cw w1 (w.heap.size + 1 + 1 + 1) n4 A4 l4.length c4) := Cw.keep (Cw.keep (Cw.fresh (by simp) _ _ _ _ _) (blw1 _ _)) hb
    have Ko : Hid (Cf w1 (w.heap.size + 1 + 1 + 1 + 1) false none 0 0 false none 0 0) := Cf.keep (Cf.fresh (by simp) _ _ _ _ _ _ _ _ _) hb
    replace B := kB5 B hb
    clear hb
    (try dsimp only at hs5)
    (try dsimp only)
    have S5 : Hid (Sl w1 A5 l5 c5) := hs5
    clear hs5
    obtain ⟨qc0, qc1⟩ := Kc.out
    obtain ⟨qd0, qd1⟩ := Kd.out
    obtain ⟨qo0, qo1, qo2, qo3⟩ := Ko.out
    obtain ⟨fo0, fo1, fo2, fo3⟩ := Fo.out
    have hza := lW Ka
    have hzb := lW Kb
    have hzc := lW Kc
    have hzd := lW Kd
    have hzo := lF Ko
    have hka5 := hza
    have hkb5 := hzb
    have hkc5 := hzc
    have hkd5 := hzd
    have hko5 := hzo
    go_wp2_with fail
    refine (rmul_any _ _ _ _ _ _ _ _ _ (S3.out.alloc _) (S4.out.alloc _)).mono ?_
    rw [e6.out]
    rintro e w2 ⟨A6, c6, rfl, hs6, hb⟩
    clear qc0 qc1 qd0 qd1 qo0 qo1 qo2 qo3 fo0 fo1 fo2 fo3
    replace S1 := kS1 S1 hb
    replace S2 := kS1 S2 hb
    replace S3 := kS1 S3 hb
    replace S4 := kS1 S4 hb
    replace S5 := kS1 S5 hb
    replace Fo := kFf1 Fo Ko hb
    replace Ka := kW1 Ka hb
    replace Kb := kW1 Kb hb
    replace Kc := kW1 Kc hb
    replace Kd := kW1 Kd hb
    replace Ko := kF1 Ko hb
    have K5 : Hid (Cw w2 w1.heap.size n5 A5 l5.length c5) := Cw.keep (Cw.fresh (by simp) _ _ _ _ _) hb
    replace B := kB1 B hb
    clear hb
    (try dsimp only at hs6)
    (try dsimp only)
    have S6 : Hid (Sl w2 A6 l6 c6) := hs6
    clear hs6
    obtain ⟨q50, q51⟩ := K5.out
    obtain ⟨qo0, qo1, qo2, qo3⟩ := Ko.out
    obtain ⟨fo0, fo1, fo2, fo3⟩ := Fo.out
    replace hza := lW Ka
    replace hzb := lW Kb
    replace hzc := lW Kc
    replace hzd := lW Kd
    replace hzo := lF Ko
    have hz5 := lW K5
    have hka6 := hza
    have hkb6 := hzb
    have hkc6 := hzc
    have hkd6 := hzd
    have hko6 := hzo
    have hk56 := hz5
    have hz9 : w.heap.size + 1 + 1 + 1 + 1 < w2.heap.size := by omega
    go_wp2
    exact bodyPost_ret (v := .tuple #[.agg #[.bool false, .slice none 0 0, .bool false, .slice none 0 0], .int .i64 16]) (by simp [results, Tryz.results169, go_sem, qo0, qo1, qo2, qo3, hz9]) rfl (FRes.alloc (fres_store4 (r := zF) 16 (Sl.nil _ none 0) (Sl.nil _ none 0) Ko.out B.out (by omega) _ _ _ _) _)
  | true =>
    obtain ⟨v5, rfl⟩ : VZ n5 l5 (x1 * x2) ∧ k5 = 0 := by
      rw [mulS_z h1 h2 (fitB_iff.1 f0)] at r5
      obtain ⟨e1, e2⟩ := Prod.mk.inj r5
      exact ⟨vz_mk e1.symm (fitB_iff.1 f0), e2.symm⟩
    cases f1 : fitB (y1 * y2) with
    | false =>
      rw [if_neg (by simp)]
      obtain rfl : k6 = 16 := by
        rw [mulS_out h3 h4, outZ_bad (fun e => by rw [fitB_iff.2 e] at f1; cases f1)] at r6
        exact (Prod.mk.inj r6).2.symm
      clear h1 h2 h3 h4 r5 r6 hden f0 f1 v5
      go_enter Tryz.func169, Tryz.ntmps169
      go_wp2_with fail
      refine (rmul_any _ _ _ _ _ _ _ _ _ (((((S1.out.alloc _).alloc _).alloc _).alloc _).alloc _) (((((S2.out.alloc _).alloc _).alloc _).alloc _).alloc _)).mono ?_
      rw [e5.out]
      rintro e w1 ⟨A5, c5, rfl, hs5, hb⟩
      replace S1 : Hid (Sl w1 A1 l1 c1) := Sl.below (((((S1.out.alloc _).alloc _).alloc _).alloc _).alloc _) hb
      replace S2 : Hid (Sl w1 A2 l2 c2) := Sl.below (((((S2.out.alloc _).alloc _).alloc _).alloc _).alloc _) hb
      replace S3 : Hid (Sl w1 A3 l3 c3) := Sl.below (((((S3.out.alloc _).alloc _).alloc _).alloc _).alloc _) hb
      replace S4 : Hid (Sl w1 A4 l4 c4) := Sl.below (((((S4.out.alloc _).alloc _).alloc _).alloc _).alloc _) hb
      have Fo : Hid (Ff w1 (w.heap.size + 1 + 1 + 1 + 1)) := Ff.keep (Ff.fresh (by simp) _ _) (Cf.fresh (by simp) _ _ _ _ _ _ _ _ _) hb
      have Ka : Hid (Cw w1 w.heap.size n1 A1 l1.length c1) := Cw.keep (Cw.keep (Cw.keep (Cw.keep (Cw.keep (Cw.fresh (by simp) _ _ _ _ _) (blw1 _ _)) (blw1 _ _)) (blw1 _ _)) (blw1 _ _)) hb
      have Kb : Hid (Cw w1 (w.heap.size + 1) n2 A2 l2.length c2) := Cw.keep (Cw.keep (Cw.keep (Cw.keep (Cw.fresh (by simp) _ _ _ _ _) (blw1 _ _)) (blw1 _ _)) (blw1 _ _)) hb
      have Kc : Hid (Cw w1 (w.heap.size + 1 + 1) n3 A3 l3.length c3) := Cw.keep (Cw.keep (Cw.keep (Cw.fresh (by simp) _ _ _ _ _) (blw1 _ _)) (blw1 _ _)) hb
      have Kd : Hid (Cw w1 (w.heap.size + 1 + 1 + 1) n4 A4 l4.length c4) := Cw.keep (Cw.keep (Cw.fresh (by simp) _ _ _ _ _) (blw1 _ _)) hb
      have Ko : Hid (Cf w1 (w.heap.size + 1 + 1 + 1 + 1) false none 0 0 false none 0 0) := Cf.keep (Cf.fresh (by simp) _ _ _ _ _ _ _ _ _) hb
      replace B := kB5 B hb
      clear hb
      (try dsimp only at hs5)
      (try dsimp only)
      have S5 : Hid (Sl w1 A5 l5 c5) := hs5
      clear hs5
      obtain ⟨qc0, qc1⟩ := Kc.out
      obtain ⟨qd0, qd1⟩ := Kd.out
      obtain ⟨qo0, qo1, qo2, qo3⟩ := Ko.out
      obtain ⟨fo0, fo1, fo2, fo3⟩ := Fo.out
      have hza := lW Ka
      have hzb := lW Kb
      have hzc := lW Kc
      have hzd := lW Kd
      have hzo := lF Ko
      have hka5 := hza
      have hkb5 := hzb
      have hkc5 := hzc
      have hkd5 := hzd
      have hko5 := hzo
      go_wp2_with fail
      refine (rmul_any _ _ _ _ _ _ _ _ _ (S3.out.alloc _) (S4.out.alloc _)).mono ?_
      rw [e6.out]
      rintro e w2 ⟨A6, c6, rfl, hs6, hb⟩
      clear qc0 qc1 qd0 qd1 qo0 qo1 qo2 qo3 fo0 fo1 fo2 fo3
      replace S1 := kS1 S1 hb
      replace S2 := kS1 S2 hb
      replace S3 := kS1 S3 hb
      replace S4 := kS1 S4 hb
      replace S5 := kS1 S5 hb
      replace Fo := kFf1 Fo Ko hb
      replace Ka := kW1 Ka hb
      replace Kb := kW1 Kb hb
      replace Kc := kW1 Kc hb
      replace Kd := kW1 Kd hb
      replace Ko := kF1 Ko hb
      have K5 : Hid (Cw w2 w1.heap.size n5 A5 l5.length c5) := Cw.keep (Cw.fresh (by simp) _ _ _ _ _) hb
      replace B := kB1 B hb
      clear hb
      (try dsimp only at hs6)
      (try dsimp only)
      have S6 : Hid (Sl w2 A6 l6 c6) := hs6
      clear hs6
      obtain ⟨q50, q51⟩ := K5.out
      obtain ⟨qo0, qo1, qo2, qo3⟩ := Ko.out
      obtain ⟨fo0, fo1, fo2, fo3⟩ := Fo.out
      replace hza := lW Ka
      replace hzb := lW Kb
      replace hzc := lW Kc
      replace hzd := lW Kd
      replace hzo := lF Ko
      have hz5 := lW K5
      have hka6 := hza
      have hkb6 := hzb
      have hkc6 := hzc
      have hkd6 := hzd
      have hko6 := hzo
      have hk56 := hz5
      have hz9 : w.heap.size + 1 + 1 + 1 + 1 < w2.heap.size := by omega
      go_wp2
      exact bodyPost_ret (v := .tuple #[.agg #[.bool false, .slice none 0 0, .bool false, .slice none 0 0], .int .i64 16]) (by simp [results, Tryz.results169, go_sem, qo0, qo1, qo2, qo3, hz9]) rfl (FRes.alloc (fres_store4 (r := zF) 16 (Sl.nil _ none 0) (Sl.nil _ none 0) Ko.out B.out (by omega) _ _ _ _) _)
    | true =>
      obtain ⟨v6, rfl⟩ : VZ n6 l6 (y1 * y2) ∧ k6 = 0 := by
        rw [mulS_z h3 h4 (fitB_iff.1 f1)] at r6
        obtain ⟨e1, e2⟩ := Prod.mk.inj r6
        exact ⟨vz_mk e1.symm (fitB_iff.1 f1), e2.symm⟩
      rw [if_pos (by simp)]
      obtain ⟨⟨⟨na, la⟩, ⟨nb, lb⟩⟩, hr⟩ : ∃ r, r = redZ (x1 * x2) (y1 * y2) := ⟨_, rfl⟩
      have HR : Hid (∀ W A A' c c', Sl W A l5 c → Sl W A' l6 c' → Calls Tryz.prog 130 #[.agg #[.bool n5, .slice A l5.length c], .agg #[.bool n6, .slice A' l6.length c']] W (FRes1 ((na, la), (nb, lb)) W)) := fun W A A' c c' a b => by rw [hr]; exact rreduced_any n5 n6 A A' l5 l6 c c' _ _ v5 v6 hden W a b
      rw [← hr]
      clear hr
      clear h1 h2 h3 h4 r5 r6 hden f0 f1 v5 v6
      go_enter Tryz.func169, Tryz.ntmps169
      go_wp2_with fail
      refine (rmul_any _ _ _ _ _ _ _ _ _ (((((S1.out.alloc _).alloc _).alloc _).alloc _).alloc _) (((((S2.out.alloc _).alloc _).alloc _).alloc _).alloc _)).mono ?_
      rw [e5.out]
      rintro e w1 ⟨A5, c5, rfl, hs5, hb⟩
      replace S1 : Hid (Sl w1 A1 l1 c1) := Sl.below (((((S1.out.alloc _).alloc _).alloc _).alloc _).alloc _) hb
      replace S2 : Hid (Sl w1 A2 l2 c2) := Sl.below (((((S2.out.alloc _).alloc _).alloc _).alloc _).alloc _) hb
      replace S3 : Hid (Sl w1 A3 l3 c3) := Sl.below (((((S3.out.alloc _).alloc _).alloc _).alloc _).alloc _) hb
      replace S4 : Hid (Sl w1 A4 l4 c4) := Sl.below (((((S4.out.alloc _).alloc _).alloc _).alloc _).alloc _) hb
      have Fo : Hid (Ff w1 (w.heap.size + 1 + 1 + 1 + 1)) := Ff.keep (Ff.fresh (by simp) _ _) (Cf.fresh (by simp) _ _ _ _ _ _ _ _ _) hb
      have Ka : Hid (Cw w1 w.heap.size n1 A1 l1.length c1) := Cw.keep (Cw.keep (Cw.keep (Cw.keep (Cw.keep (Cw.fresh (by simp) _ _ _ _ _) (blw1 _ _)) (blw1 _ _)) (blw1 _ _)) (blw1 _ _)) hb
      have Kb : Hid (Cw w1 (w.heap.size + 1) n2 A2 l2.length c2) := Cw.keep (Cw.keep (Cw.keep (Cw.keep (Cw.fresh (by simp) _ _ _ _ _) (blw1 _ _)) (blw1 _ _)) (blw1 _ _)) hb
      have Kc : Hid (Cw w1 (w.heap.size + 1 + 1) n3 A3 l3.length c3) := Cw.keep (Cw.keep (Cw.keep (Cw.fresh (by simp) _ _ _ _ _) (blw1 _ _)) (blw1 _ _)) hb
      have Kd : Hid (Cw w1 (w.heap.size + 1 + 1 + 1) n4 A4 l4.length c4) := Cw.keep (Cw.keep (Cw.fresh (by simp) _ _ _ _ _) (blw1 _ _)) hb
      have Ko : Hid (Cf w1 (w.heap.size + 1 + 1 + 1 + 1) false none 0 0 false none 0 0) := Cf.keep (Cf.fresh (by simp) _ _ _ _ _ _ _ _ _) hb
      replace B := kB5 B hb
      clear hb
      (try dsimp only at hs5)
      (try dsimp only)
      have S5 : Hid (Sl w1 A5 l5 c5) := hs5
      clear hs5
      obtain ⟨qc0, qc1⟩ := Kc.out
      obtain ⟨qd0, qd1⟩ := Kd.out
      obtain ⟨qo0, qo1, qo2, qo3⟩ := Ko.out
      obtain ⟨fo0, fo1, fo2, fo3⟩ := Fo.out
      have hza := lW Ka
      have hzb := lW Kb
      have hzc := lW Kc
      have hzd := lW Kd
      have hzo := lF Ko
      have hka5 := hza
      have hkb5 := hzb
      have hkc5 := hzc
      have hkd5 := hzd
      have hko5 := hzo
      go_wp2_with fail
      refine (rmul_any _ _ _ _ _ _ _ _ _ (S3.out.alloc _) (S4.out.alloc _)).mono ?_
      rw [e6.out]
      rintro e w2 ⟨A6, c6, rfl, hs6, hb⟩
      clear qc0 qc1 qd0 qd1 qo0 qo1 qo2 qo3 fo0 fo1 fo2 fo3
      replace S1 := kS1 S1 hb
      replace S2 := kS1 S2 hb
      replace S3 := kS1 S3 hb
      replace S4 := kS1 S4 hb
      replace S5 := kS1 S5 hb
      replace Fo := kFf1 Fo Ko hb
      replace Ka := kW1 Ka hb
      replace Kb := kW1 Kb hb
      replace Kc := kW1 Kc hb
      replace Kd := kW1 Kd hb
      replace Ko := kF1 Ko hb
      have K5 : Hid (Cw w2 w1.heap.size n5 A5 l5.length c5) := Cw.keep (Cw.fresh (by simp) _ _ _ _ _) hb
      replace B := kB1 B hb
      clear hb
      (try dsimp only at hs6)
      (try dsimp only)
      have S6 : Hid (Sl w2 A6 l6 c6) := hs6
      clear hs6
      obtain ⟨q50, q51⟩ := K5.out
      obtain ⟨qo0, qo1, qo2, qo3⟩ := Ko.out
      obtain ⟨fo0, fo1, fo2, fo3⟩ := Fo.out
      replace hza := lW Ka
      replace hzb := lW Kb
      replace hzc := lW Kc
      replace hzd := lW Kd
      replace hzo := lF Ko
      have hz5 := lW K5
      have hka6 := hza
      have hkb6 := hzb
      have hkc6 := hzc
      have hkd6 := hzd
      have hko6 := hzo
      have hk56 := hz5
      go_wp2_with fail
      refine (HR.out _ _ _ _ _ (S5.out.alloc _) (S6.out.alloc _)).mono ?_
      rintro e w3 ⟨A9, c9, B9, d9, rfl, hsx, hsy, hb⟩
      clear q50 q51 qo0 qo1 qo2 qo3 fo0 fo1 fo2 fo3
      replace S1 := kS1 S1 hb
      replace S2 := kS1 S2 hb
      replace S3 := kS1 S3 hb
      replace S4 := kS1 S4 hb
      replace S5 := kS1 S5 hb
      replace S6 := kS1 S6 hb
      replace Fo := kFf1 Fo Ko hb
      replace Ka := kW1 Ka hb
      replace Kb := kW1 Kb hb
      replace Kc := kW1 Kc hb
      replace Kd := kW1 Kd hb
      replace Ko := kF1 Ko hb
      replace K5 := kW1 K5 hb
      have K6 : Hid (Cw w3 w2.heap.size n6 A6 l6.length c6) := Cw.keep (Cw.fresh (by simp) _ _ _ _ _) hb
      replace B := kB1 B hb
      clear hb
      (try dsimp only at hsx hsy)
      (try dsimp only)
      have Sx : Hid (Sl w3 A9 la c9) := hsx
      clear hsx
      have Sy : Hid (Sl w3 B9 lb d9) := hsy
      clear hsy
      obtain ⟨qo0, qo1, qo2, qo3⟩ := Ko.out
      obtain ⟨fo0, fo1, fo2, fo3⟩ := Fo.out
      replace hza := lW Ka
      replace hzb := lW Kb
      replace hzc := lW Kc
      replace hzd := lW Kd
      replace hzo := lF Ko
      replace hz5 := lW K5
      have hz6 := lW K6
      go_wp2_with fail
      exact bodyPost_ret (v := .tuple #[.agg #[.bool na, .slice A9 la.length c9, .bool nb, .slice B9 lb.length d9], .int .i64 0]) (by simp [results, Tryz.results169, go_sem, qo0, qo1, qo2, qo3]) rfl (fres_store4 (r := ((na, la), (nb, lb))) 0 Sx.out Sy.out Ko.out B.out (by omega) _ _ _ _)

end Go.Proofs.YtlekjkljajeodaaGreat
/- Walks: the reference's both, added, product, Add, Sub, Mul, Div. -/
namespace Go.Proofs.YtlekjkljajeodaaGreat
open Go.RowKit
attribute [local go_sem ↓] Go.wp_at_zero Go.wp_at_succ
set_option maxRecDepth 100000 in
set_option maxHeartbeats 2000000 in
theorem radded_sub (n1 n2 n3 n4 : Bool) (A1 A2 A3 A4 : Option Addr) (l1 l2 l3 l4 : List Nat) (c1 c2 c3 c4 : Nat) (x1 y1 x2 y2 : Int) (h1 : VZ n1 l1 x1) (h2 : VZ n2 l2 y1) (h3 : VZ n3 l3 x2) (h4 : VZ n4 l4 y2) (hden : y1 * y2 ≠ 0) (w : World) (hs1 : Sl w A1 l1 c1) (hs2 : Sl w A2 l2 c2) (hs3 : Sl w A3 l3 c3) (hs4 : Sl w A4 l4 c4) :
    Calls Tryz.prog 170 #[.agg #[.bool n1, .slice A1 l1.length c1, .bool n2, .slice A2 l2.length c2], .agg #[.bool n3, .slice A3 l3.length c3, .bool n4, .slice A4 l4.length c4], .bool true] w (FRes (subV x1 y1 x2 y2) w) := by
  have S1 := Lib.hid hs1
  have S2 := Lib.hid hs2
  have S3 := Lib.hid hs3
  have S4 := Lib.hid hs4
  have B : Hid (Below w.heap.size w w) := Below.refl _ _
  unfold subV outF
  obtain ⟨⟨⟨n5, l5⟩, k5⟩, r5⟩ : ∃ r, mulS n1 l1 n4 l4 = r := ⟨_, rfl⟩
  obtain ⟨⟨⟨n6, l6⟩, k6⟩, r6⟩ : ∃ r, mulS n3 l3 n2 l2 = r := ⟨_, rfl⟩
  obtain ⟨⟨⟨n7, l7⟩, k7⟩, r7⟩ : ∃ r, mulS n2 l2 n4 l4 = r := ⟨_, rfl⟩
  have e5 := Lib.hid r5
  have e6 := Lib.hid r6
  have e7 := Lib.hid r7
  clear hs1 hs2 hs3 hs4
  cases f0 : fitB (x1 * y2) with
  | false =>
    rw [if_neg (by simp)]
    obtain rfl : k5 = 16 := by
      rw [mulS_out h1 h4, outZ_bad (fun e => by rw [fitB_iff.2 e] at f0; cases f0)] at r5
      exact (Prod.mk.inj r5).2.symm
    clear h1 h2 h3 h4 r5 r6 r7 hden f0
    go_enter Tryz.func170, Tryz.ntmps170
    go_wp2_with fail
    refine (rmul_any _ _ _ _ _ _ _ _ _ (((S1.out.alloc _).alloc _).alloc _) (((S4.out.alloc _).alloc _).alloc _)).mono ?_
    rw [e5.out]
    rintro e w1 ⟨A5, c5, rfl, hs5, hb⟩
    replace S1 := kS3 S1 hb
    replace S2 := kS3 S2 hb
    replace S3 := kS3 S3 hb
    replace S4 := kS3 S4 hb
    have Fo : Hid (Ff w1 (w.heap.size + 1 + 1)) := Ff.keep (Ff.fresh (by simp) _ _) (Cf.fresh (by simp) _ _ _ _ _ _ _ _ _) hb
    have Ka : Hid (Cf w1 w.heap.size n1 A1 l1.length c1 n2 A2 l2.length c2) := Cf.keep (Cf.keep (Cf.keep (Cf.fresh (by simp) _ _ _ _ _ _ _ _ _) (blw1 _ _)) (blw1 _ _)) hb
    have Kb : Hid (Cf w1 (w.heap.size + 1) n3 A3 l3.length c3 n4 A4 l4.length c4) := Cf.keep (Cf.keep (Cf.fresh (by simp) _ _ _ _ _ _ _ _ _) (blw1 _ _)) hb
    have Ko : Hid (Cf w1 (w.heap.size + 1 + 1) false none 0 0 false none 0 0) := Cf.keep (Cf.fresh (by simp) _ _ _ _ _ _ _ _ _) hb
    replace B := kB3 B hb
    clear hb
    (try dsimp only at hs5)
    (try dsimp only)
    have S5 : Hid (Sl w1 A5 l5 c5) := hs5
    clear hs5
    obtain ⟨qa0, qa1, qa2, qa3⟩ := Ka.out
    obtain ⟨qb0, qb1, qb2, qb3⟩ := Kb.out
    obtain ⟨qo0, qo1, qo2, qo3⟩ := Ko.out
    obtain ⟨fo0, fo1, fo2, fo3⟩ := Fo.out
    have hza := lF Ka
    have hzb := lF Kb
    have hzo := lF Ko
    have hka5 := hza
    have hkb5 := hzb
    have hko5 := hzo
    go_wp2_with fail
    refine (rmul_any _ _ _ _ _ _ _ _ _ (S3.out.alloc _) (S2.out.alloc _)).mono ?_
    rw [e6.out]
    rintro e w2 ⟨A6, c6, rfl, hs6, hb⟩
    clear qa0 qa1 qa2 qa3 qb0 qb1 qb2 qb3 qo0 qo1 qo2 qo3 fo0 fo1 fo2 fo3
    replace S1 := kS1 S1 hb
    replace S2 := kS1 S2 hb
    replace S3 := kS1 S3 hb
    replace S4 := kS1 S4 hb
    replace S5 := kS1 S5 hb
    replace Fo := kFf1 Fo Ko hb
    replace Ka := kF1 Ka hb
    replace Kb := kF1 Kb hb
    replace Ko := kF1 Ko hb
    have K5 : Hid (Cw w2 w1.heap.size n5 A5 l5.length c5) := Cw.keep (Cw.fresh (by simp) _ _ _ _ _) hb
    replace B := kB1 B hb
    clear hb
    (try dsimp only at hs6)
    (try dsimp only)
    have S6 : Hid (Sl w2 A6 l6 c6) := hs6
    clear hs6
    obtain ⟨qa0, qa1, qa2, qa3⟩ := Ka.out
    obtain ⟨qb0, qb1, qb2, qb3⟩ := Kb.out
    obtain ⟨qo0, qo1, qo2, qo3⟩ := Ko.out
    obtain ⟨fo0, fo1, fo2, fo3⟩ := Fo.out
    replace hza := lF Ka
    replace hzb := lF Kb
    replace hzo := lF Ko
    have hz5 := lW K5
    have hka6 := hza
    have hkb6 := hzb
    have hko6 := hzo
    have hk56 := hz5
    go_wp2_with fail
    refine (rmul_any _ _ _ _ _ _ _ _ _ (S2.out.alloc _) (S4.out.alloc _)).mono ?_
    rw [e7.out]
    rintro e w3 ⟨A7, c7, rfl, hs7, hb⟩
    clear qa0 qa1 qa2 qa3 qb0 qb1 qb2 qb3 qo0 qo1 qo2 qo3 fo0 fo1 fo2 fo3
    replace S1 := kS1 S1 hb
    replace S2 := kS1 S2 hb
    replace S3 := kS1 S3 hb
    replace S4 := kS1 S4 hb
    replace S5 := kS1 S5 hb
    replace S6 := kS1 S6 hb
    replace Fo := kFf1 Fo Ko hb
    replace Ka := kF1 Ka hb
    replace Kb := kF1 Kb hb
    replace Ko := kF1 Ko hb
    replace K5 := kW1 K5 hb
    have K6 : Hid (Cw w3 w2.heap.size n6 A6 l6.length c6) := Cw.keep (Cw.fresh (by simp) _ _ _ _ _) hb
    replace B := kB1 B hb
    clear hb
    (try dsimp only at hs7)
    (try dsimp only)
    have S7 : Hid (Sl w3 A7 l7 c7) := hs7
    clear hs7
    obtain ⟨qa0, qa1, qa2, qa3⟩ := Ka.out
    obtain ⟨qb0, qb1, qb2, qb3⟩ := Kb.out
    obtain ⟨qo0, qo1, qo2, qo3⟩ := Ko.out
    obtain ⟨fo0, fo1, fo2, fo3⟩ := Fo.out
    obtain ⟨q50, q51⟩ := K5.out
    obtain ⟨q60, q61⟩ := K6.out
    replace hza := lF Ka
    replace hzb := lF Kb
    replace hzo := lF Ko
    replace hz5 := lW K5
    have hz6 := lW K6
    have hka7 := hza
    have hkb7 := hzb
    have hko7 := hzo
    have hk57 := hz5
    have hk67 := hz6
    have hz9 : w.heap.size + 1 + 1 < w3.heap.size := by omega
    go_wp2
    exact bodyPost_ret (v := .tuple #[.agg #[.bool false, .slice none 0 0, .bool false, .slice none 0 0], .int .i64 16]) (by simp [results, Tryz.results170, go_sem, qo0, qo1, qo2, qo3, hz9]) rfl (FRes.alloc (fres_store4 (r := zF) 16 (Sl.nil _ none 0) (Sl.nil _ none 0) Ko.out B.out (by omega) _ _ _ _) _)
  | true =>
    have v5 : VZ n5 l5 (x1 * y2) ∧ k5 = 0 := by
      rw [mulS_z h1 h4 (fitB_iff.1 f0)] at r5
      obtain ⟨e1, e2⟩ := Prod.mk.inj r5
      exact ⟨vz_mk e1.symm (fitB_iff.1 f0), e2.symm⟩
    obtain ⟨v5, rfl⟩ := v5
    cases f1 : fitB (x2 * y1) with
    | false =>
      rw [if_neg (by simp)]
      obtain rfl : k6 = 16 := by
        rw [mulS_out h3 h2, outZ_bad (fun e => by rw [fitB_iff.2 e] at f1; cases f1)] at r6
        exact (Prod.mk.inj r6).2.symm
      clear h1 h2 h3 h4 r5 r6 r7 hden f0 f1 v5
      go_enter Tryz.func170, Tryz.ntmps170
      go_wp2_with fail
      refine (rmul_any _ _ _ _ _ _ _ _ _ (((S1.out.alloc _).alloc _).alloc _) (((S4.out.alloc _).alloc _).alloc _)).mono ?_
      rw [e5.out]
      rintro e w1 ⟨A5, c5, rfl, hs5, hb⟩
      replace S1 := kS3 S1 hb
      replace S2 := kS3 S2 hb
      replace S3 := kS3 S3 hb
      replace S4 := kS3 S4 hb
      have Fo : Hid (Ff w1 (w.heap.size + 1 + 1)) := Ff.keep (Ff.fresh (by simp) _ _) (Cf.fresh (by simp) _ _ _ _ _ _ _ _ _) hb
      have Ka : Hid (Cf w1 w.heap.size n1 A1 l1.length c1 n2 A2 l2.length c2) := Cf.keep (Cf.keep (Cf.keep (Cf.fresh (by simp) _ _ _ _ _ _ _ _ _) (blw1 _ _)) (blw1 _ _)) hb
      have Kb : Hid (Cf w1 (w.heap.size + 1) n3 A3 l3.length c3 n4 A4 l4.length c4) := Cf.keep (Cf.keep (Cf.fresh (by simp) _ _ _ _ _ _ _ _ _) (blw1 _ _)) hb
      have Ko : Hid (Cf w1 (w.heap.size + 1 + 1) false none 0 0 false none 0 0) := Cf.keep (Cf.fresh (by simp) _ _ _ _ _ _ _ _ _) hb
      replace B := kB3 B hb
      clear hb
      (try dsimp only at hs5)
      (try dsimp only)
      have S5 : Hid (Sl w1 A5 l5 c5) := hs5
      clear hs5
      obtain ⟨qa0, qa1, qa2, qa3⟩ := Ka.out
      obtain ⟨qb0, qb1, qb2, qb3⟩ := Kb.out
      obtain ⟨qo0, qo1, qo2, qo3⟩ := Ko.out
      obtain ⟨fo0, fo1, fo2, fo3⟩ := Fo.out
      have hza := lF Ka
      have hzb := lF Kb
      have hzo := lF Ko
      have hka5 := hza
      have hkb5 := hzb
      have hko5 := hzo
      go_wp2_with fail
      refine (rmul_any _ _ _ _ _ _ _ _ _ (S3.out.alloc _) (S2.out.alloc _)).mono ?_
      rw [e6.out]
      rintro e w2 ⟨A6, c6, rfl, hs6, hb⟩
      clear qa0 qa1 qa2 qa3 qb0 qb1 qb2 qb3 qo0 qo1 qo2 qo3 fo0 fo1 fo2 fo3
      replace S1 := kS1 S1 hb
      replace S2 := kS1 S2 hb
      replace S3 := kS1 S3 hb
      replace S4 := kS1 S4 hb
      replace S5 := kS1 S5 hb
      replace Fo := kFf1 Fo Ko hb
      replace Ka := kF1 Ka hb
      replace Kb := kF1 Kb hb
      replace Ko := kF1 Ko hb
      have K5 : Hid (Cw w2 w1.heap.size n5 A5 l5.length c5) := Cw.keep (Cw.fresh (by simp) _ _ _ _ _) hb
      replace B := kB1 B hb
      clear hb
      (try dsimp only at hs6)
      (try dsimp only)
      have S6 : Hid (Sl w2 A6 l6 c6) := hs6
      clear hs6
      obtain ⟨qa0, qa1, qa2, qa3⟩ := Ka.out
      obtain ⟨qb0, qb1, qb2, qb3⟩ := Kb.out
      obtain ⟨qo0, qo1, qo2, qo3⟩ := Ko.out
      obtain ⟨fo0, fo1, fo2, fo3⟩ := Fo.out
      replace hza := lF Ka
      replace hzb := lF Kb
      replace hzo := lF Ko
      have hz5 := lW K5
      have hka6 := hza
      have hkb6 := hzb
      have hko6 := hzo
      have hk56 := hz5
      go_wp2_with fail
      refine (rmul_any _ _ _ _ _ _ _ _ _ (S2.out.alloc _) (S4.out.alloc _)).mono ?_
      rw [e7.out]
      rintro e w3 ⟨A7, c7, rfl, hs7, hb⟩
      clear qa0 qa1 qa2 qa3 qb0 qb1 qb2 qb3 qo0 qo1 qo2 qo3 fo0 fo1 fo2 fo3
      replace S1 := kS1 S1 hb
      replace S2 := kS1 S2 hb
      replace S3 := kS1 S3 hb
      replace S4 := kS1 S4 hb
      replace S5 := kS1 S5 hb
      replace S6 := kS1 S6 hb
      replace Fo := kFf1 Fo Ko hb
      replace Ka := kF1 Ka hb
      replace Kb := kF1 Kb hb
      replace Ko := kF1 Ko hb
      replace K5 := kW1 K5 hb
      have K6 : Hid (Cw w3 w2.heap.size n6 A6 l6.length c6) := Cw.keep (Cw.fresh (by simp) _ _ _ _ _) hb
      replace B := kB1 B hb
      clear hb
      (try dsimp only at hs7)
      (try dsimp only)
      have S7 : Hid (Sl w3 A7 l7 c7) := hs7
      clear hs7
      obtain ⟨qa0, qa1, qa2, qa3⟩ := Ka.out
      obtain ⟨qb0, qb1, qb2, qb3⟩ := Kb.out
      obtain ⟨qo0, qo1, qo2, qo3⟩ := Ko.out
      obtain ⟨fo0, fo1, fo2, fo3⟩ := Fo.out
      obtain ⟨q50, q51⟩ := K5.out
      obtain ⟨q60, q61⟩ := K6.out
      replace hza := lF Ka
      replace hzb := lF Kb
      replace hzo := lF Ko
      replace hz5 := lW K5
      have hz6 := lW K6
      have hka7 := hza
      have hkb7 := hzb
      have hko7 := hzo
      have hk57 := hz5
      have hk67 := hz6
      have hz9 : w.heap.size + 1 + 1 < w3.heap.size := by omega
      go_wp2
      exact bodyPost_ret (v := .tuple #[.agg #[.bool false, .slice none 0 0, .bool false, .slice none 0 0], .int .i64 16]) (by simp [results, Tryz.results170, go_sem, qo0, qo1, qo2, qo3, hz9]) rfl (FRes.alloc (fres_store4 (r := zF) 16 (Sl.nil _ none 0) (Sl.nil _ none 0) Ko.out B.out (by omega) _ _ _ _) _)
    | true =>
      have v6 : VZ n6 l6 (x2 * y1) ∧ k6 = 0 := by
        rw [mulS_z h3 h2 (fitB_iff.1 f1)] at r6
        obtain ⟨e1, e2⟩ := Prod.mk.inj r6
        exact ⟨vz_mk e1.symm (fitB_iff.1 f1), e2.symm⟩
      obtain ⟨v6, rfl⟩ := v6
      cases f2 : fitB (y1 * y2) with
      | false =>
        rw [if_neg (by simp)]
        obtain rfl : k7 = 16 := by
          rw [mulS_out h2 h4, outZ_bad (fun e => by rw [fitB_iff.2 e] at f2; cases f2)] at r7
          exact (Prod.mk.inj r7).2.symm
        clear h1 h2 h3 h4 r5 r6 r7 hden f0 f1 f2 v5 v6
        go_enter Tryz.func170, Tryz.ntmps170
        go_wp2_with fail
        refine (rmul_any _ _ _ _ _ _ _ _ _ (((S1.out.alloc _).alloc _).alloc _) (((S4.out.alloc _).alloc _).alloc _)).mono ?_
        rw [e5.out]
        rintro e w1 ⟨A5, c5, rfl, hs5, hb⟩
        replace S1 := kS3 S1 hb
        replace S2 := kS3 S2 hb
        replace S3 := kS3 S3 hb
        replace S4 := kS3 S4 hb
        have Fo : Hid (Ff w1 (w.heap.size + 1 + 1)) := Ff.keep (Ff.fresh (by simp) _ _) (Cf.fresh (by simp) _ _ _ _ _ _ _ _ _) hb
        have Ka : Hid (Cf w1 w.heap.size n1 A1 l1.length c1 n2 A2 l2.length c2) := Cf.keep (Cf.keep (Cf.keep (Cf.fresh (by simp) _ _ _ _ _ _ _ _ _) (blw1 _ _)) (blw1 _ _)) hb
        have Kb : Hid (Cf w1 (w.heap.size + 1) n3 A3 l3.length c3 n4 A4 l4.length c4) := Cf.keep (Cf.keep (Cf.fresh (by simp) _ _ _ _ _ _ _ _ _) (blw1 _ _)) hb
        have Ko : Hid (Cf w1 (w.heap.size + 1 + 1) false none 0 0 false none 0 0) := Cf.keep (Cf.fresh (by simp) _ _ _ _ _ _ _ _ _) hb
        replace B := kB3 B hb
        clear hb
        (try dsimp only at hs5)
        (try dsimp only)
        have S5 : Hid (Sl w1 A5 l5 c5) := hs5
        clear hs5
        obtain ⟨qa0, qa1, qa2, qa3⟩ := Ka.out
        obtain ⟨qb0, qb1, qb2, qb3⟩ := Kb.out
        obtain ⟨qo0, qo1, qo2, qo3⟩ := Ko.out
        obtain ⟨fo0, fo1, fo2, fo3⟩ := Fo.out
        have hza := lF Ka
        have hzb := lF Kb
        have hzo := lF Ko
        have hka5 := hza
        have hkb5 := hzb
        have hko5 := hzo
        go_wp2_with fail
        refine (rmul_any _ _ _ _ _ _ _ _ _ (S3.out.alloc _) (S2.out.alloc _)).mono ?_
        rw [e6.out]
        rintro e w2 ⟨A6, c6, rfl, hs6, hb⟩
        clear qa0 qa1 qa2 qa3 qb0 qb1 qb2 qb3 qo0 qo1 qo2 qo3 fo0 fo1 fo2 fo3
        replace S1 := kS1 S1 hb
        replace S2 := kS1 S2 hb
        replace S3 := kS1 S3 hb
        replace S4 := kS1 S4 hb
        replace S5 := kS1 S5 hb
        replace Fo := kFf1 Fo Ko hb
        replace Ka := kF1 Ka hb
        replace Kb := kF1 Kb hb
        replace Ko := kF1 Ko hb
        have K5 : Hid (Cw w2 w1.heap.size n5 A5 l5.length c5) := Cw.keep (Cw.fresh (by simp) _ _ _ _ _) hb
        replace B := kB1 B hb
        clear hb
        (try dsimp only at hs6)
        (try dsimp only)
        have S6 : Hid (Sl w2 A6 l6 c6) := hs6
        clear hs6
        obtain ⟨qa0, qa1, qa2, qa3⟩ := Ka.out
        obtain ⟨qb0, qb1, qb2, qb3⟩ := Kb.out
        obtain ⟨qo0, qo1, qo2, qo3⟩ := Ko.out
        obtain ⟨fo0, fo1, fo2, fo3⟩ := Fo.out
        replace hza := lF Ka
        replace hzb := lF Kb
        replace hzo := lF Ko
        have hz5 := lW K5
        have hka6 := hza
        have hkb6 := hzb
        have hko6 := hzo
        have hk56 := hz5
        go_wp2_with fail
        refine (rmul_any _ _ _ _ _ _ _ _ _ (S2.out.alloc _) (S4.out.alloc _)).mono ?_
        rw [e7.out]
        rintro e w3 ⟨A7, c7, rfl, hs7, hb⟩
        clear qa0 qa1 qa2 qa3 qb0 qb1 qb2 qb3 qo0 qo1 qo2 qo3 fo0 fo1 fo2 fo3
        replace S1 := kS1 S1 hb
        replace S2 := kS1 S2 hb
        replace S3 := kS1 S3 hb
        replace S4 := kS1 S4 hb
        replace S5 := kS1 S5 hb
        replace S6 := kS1 S6 hb
        replace Fo := kFf1 Fo Ko hb
        replace Ka := kF1 Ka hb
        replace Kb := kF1 Kb hb
        replace Ko := kF1 Ko hb
        replace K5 := kW1 K5 hb
        have K6 : Hid (Cw w3 w2.heap.size n6 A6 l6.length c6) := Cw.keep (Cw.fresh (by simp) _ _ _ _ _) hb
        replace B := kB1 B hb
        clear hb
        (try dsimp only at hs7)
        (try dsimp only)
        have S7 : Hid (Sl w3 A7 l7 c7) := hs7
        clear hs7
        obtain ⟨qa0, qa1, qa2, qa3⟩ := Ka.out
        obtain ⟨qb0, qb1, qb2, qb3⟩ := Kb.out
        obtain ⟨qo0, qo1, qo2, qo3⟩ := Ko.out
        obtain ⟨fo0, fo1, fo2, fo3⟩ := Fo.out
        obtain ⟨q50, q51⟩ := K5.out
        obtain ⟨q60, q61⟩ := K6.out
        replace hza := lF Ka
        replace hzb := lF Kb
        replace hzo := lF Ko
        replace hz5 := lW K5
        have hz6 := lW K6
        have hka7 := hza
        have hkb7 := hzb
        have hko7 := hzo
        have hk57 := hz5
        have hk67 := hz6
        have hz9 : w.heap.size + 1 + 1 < w3.heap.size := by omega
        go_wp2
        exact bodyPost_ret (v := .tuple #[.agg #[.bool false, .slice none 0 0, .bool false, .slice none 0 0], .int .i64 16]) (by simp [results, Tryz.results170, go_sem, qo0, qo1, qo2, qo3, hz9]) rfl (FRes.alloc (fres_store4 (r := zF) 16 (Sl.nil _ none 0) (Sl.nil _ none 0) Ko.out B.out (by omega) _ _ _ _) _)
      | true =>
        have v7 : VZ n7 l7 (y1 * y2) ∧ k7 = 0 := by
          rw [mulS_z h2 h4 (fitB_iff.1 f2)] at r7
          obtain ⟨e1, e2⟩ := Prod.mk.inj r7
          exact ⟨vz_mk e1.symm (fitB_iff.1 f2), e2.symm⟩
        obtain ⟨v7, rfl⟩ := v7
        obtain ⟨⟨⟨n8, l8⟩, k8⟩, r8⟩ : ∃ r, addS n5 l5 n6 l6 = r := ⟨_, rfl⟩
        have e8 := Lib.hid r8
        obtain ⟨⟨⟨n9, l9⟩, k9⟩, r9⟩ : ∃ r, subS n5 l5 n6 l6 = r := ⟨_, rfl⟩
        have e9 := Lib.hid r9
        cases f3 : fitB (x1 * y2 - x2 * y1) with
        | false =>
          rw [if_neg (by simp)]
          obtain rfl : k9 = 16 := by
            rw [subS_out v5 v6, outZ_bad (fun e => by rw [fitB_iff.2 e] at f3; cases f3)] at r9
            exact (Prod.mk.inj r9).2.symm
          clear h1 h2 h3 h4 r5 r6 r7 hden f0 f1 f2 f3 r8 r9 v5 v6 v7
          go_enter Tryz.func170, Tryz.ntmps170
          go_wp2_with fail
          refine (rmul_any _ _ _ _ _ _ _ _ _ (((S1.out.alloc _).alloc _).alloc _) (((S4.out.alloc _).alloc _).alloc _)).mono ?_
          rw [e5.out]
          rintro e w1 ⟨A5, c5, rfl, hs5, hb⟩
          replace S1 := kS3 S1 hb
          replace S2 := kS3 S2 hb
          replace S3 := kS3 S3 hb
          replace S4 := kS3 S4 hb
          have Fo : Hid (Ff w1 (w.heap.size + 1 + 1)) := Ff.keep (Ff.fresh (by simp) _ _) (Cf.fresh (by simp) _ _ _ _ _ _ _ _ _) hb
          have Ka : Hid (Cf w1 w.heap.size n1 A1 l1.length c1 n2 A2 l2.length c2) := Cf.keep (Cf.keep (Cf.keep (Cf.fresh (by simp) _ _ _ _ _ _ _ _ _) (blw1 _ _)) (blw1 _ _)) hb
          have Kb : Hid (Cf w1 (w.heap.size + 1) n3 A3 l3.length c3 n4 A4 l4.length c4) := Cf.keep (Cf.keep (Cf.fresh (by simp) _ _ _ _ _ _ _ _ _) (blw1 _ _)) hb
          have Ko : Hid (Cf w1 (w.heap.size + 1 + 1) false none 0 0 false none 0 0) := Cf.keep (Cf.fresh (by simp) _ _ _ _ _ _ _ _ _) hb
          replace B := kB3 B hb
          clear hb
          (try dsimp only at hs5)
          (try dsimp only)
          have S5 : Hid (Sl w1 A5 l5 c5) := hs5
          clear hs5
          obtain ⟨qa0, qa1, qa2, qa3⟩ := Ka.out
          obtain ⟨qb0, qb1, qb2, qb3⟩ := Kb.out
          obtain ⟨qo0, qo1, qo2, qo3⟩ := Ko.out
          obtain ⟨fo0, fo1, fo2, fo3⟩ := Fo.out
          have hza := lF Ka
          have hzb := lF Kb
          have hzo := lF Ko
          have hka5 := hza
          have hkb5 := hzb
          have hko5 := hzo
          go_wp2_with fail
          refine (rmul_any _ _ _ _ _ _ _ _ _ (S3.out.alloc _) (S2.out.alloc _)).mono ?_
          rw [e6.out]
          rintro e w2 ⟨A6, c6, rfl, hs6, hb⟩
          clear qa0 qa1 qa2 qa3 qb0 qb1 qb2 qb3 qo0 qo1 qo2 qo3 fo0 fo1 fo2 fo3
          replace S1 := kS1 S1 hb
          replace S2 := kS1 S2 hb
          replace S3 := kS1 S3 hb
          replace S4 := kS1 S4 hb
          replace S5 := kS1 S5 hb
          replace Fo := kFf1 Fo Ko hb
          replace Ka := kF1 Ka hb
          replace Kb := kF1 Kb hb
          replace Ko := kF1 Ko hb
          have K5 : Hid (Cw w2 w1.heap.size n5 A5 l5.length c5) := Cw.keep (Cw.fresh (by simp) _ _ _ _ _) hb
          replace B := kB1 B hb
          clear hb
          (try dsimp only at hs6)
          (try dsimp only)
          have S6 : Hid (Sl w2 A6 l6 c6) := hs6
          clear hs6
          obtain ⟨qa0, qa1, qa2, qa3⟩ := Ka.out
          obtain ⟨qb0, qb1, qb2, qb3⟩ := Kb.out
          obtain ⟨qo0, qo1, qo2, qo3⟩ := Ko.out
          obtain ⟨fo0, fo1, fo2, fo3⟩ := Fo.out
          replace hza := lF Ka
          replace hzb := lF Kb
          replace hzo := lF Ko
          have hz5 := lW K5
          have hka6 := hza
          have hkb6 := hzb
          have hko6 := hzo
          have hk56 := hz5
          go_wp2_with fail
          refine (rmul_any _ _ _ _ _ _ _ _ _ (S2.out.alloc _) (S4.out.alloc _)).mono ?_
          rw [e7.out]
          rintro e w3 ⟨A7, c7, rfl, hs7, hb⟩
          clear qa0 qa1 qa2 qa3 qb0 qb1 qb2 qb3 qo0 qo1 qo2 qo3 fo0 fo1 fo2 fo3
          replace S1 := kS1 S1 hb
          replace S2 := kS1 S2 hb
          replace S3 := kS1 S3 hb
          replace S4 := kS1 S4 hb
          replace S5 := kS1 S5 hb
          replace S6 := kS1 S6 hb
          replace Fo := kFf1 Fo Ko hb
          replace Ka := kF1 Ka hb
          replace Kb := kF1 Kb hb
          replace Ko := kF1 Ko hb
          replace K5 := kW1 K5 hb
          have K6 : Hid (Cw w3 w2.heap.size n6 A6 l6.length c6) := Cw.keep (Cw.fresh (by simp) _ _ _ _ _) hb
          replace B := kB1 B hb
          clear hb
          (try dsimp only at hs7)
          (try dsimp only)
          have S7 : Hid (Sl w3 A7 l7 c7) := hs7
          clear hs7
          obtain ⟨qa0, qa1, qa2, qa3⟩ := Ka.out
          obtain ⟨qb0, qb1, qb2, qb3⟩ := Kb.out
          obtain ⟨qo0, qo1, qo2, qo3⟩ := Ko.out
          obtain ⟨fo0, fo1, fo2, fo3⟩ := Fo.out
          obtain ⟨q50, q51⟩ := K5.out
          obtain ⟨q60, q61⟩ := K6.out
          replace hza := lF Ka
          replace hzb := lF Kb
          replace hzo := lF Ko
          replace hz5 := lW K5
          have hz6 := lW K6
          have hka7 := hza
          have hkb7 := hzb
          have hko7 := hzo
          have hk57 := hz5
          have hk67 := hz6
          go_wp2_with fail
          refine (radd_any _ _ _ _ _ _ _ _ _ (S5.out.alloc _) (S6.out.alloc _)).mono ?_
          rw [e8.out]
          rintro e w4 ⟨A8, c8, rfl, hs8, hb⟩
          clear qa0 qa1 qa2 qa3 qb0 qb1 qb2 qb3 qo0 qo1 qo2 qo3 fo0 fo1 fo2 fo3 q50 q51 q60 q61
          replace S1 := kS1 S1 hb
          replace S2 := kS1 S2 hb
          replace S3 := kS1 S3 hb
          replace S4 := kS1 S4 hb
          replace S5 := kS1 S5 hb
          replace S6 := kS1 S6 hb
          replace S7 := kS1 S7 hb
          replace Fo := kFf1 Fo Ko hb
          replace Ka := kF1 Ka hb
          replace Kb := kF1 Kb hb
          replace Ko := kF1 Ko hb
          replace K5 := kW1 K5 hb
          replace K6 := kW1 K6 hb
          have K7 : Hid (Cw w4 w3.heap.size n7 A7 l7.length c7) := Cw.keep (Cw.fresh (by simp) _ _ _ _ _) hb
          replace B := kB1 B hb
          clear hb
          (try dsimp only at hs8)
          (try dsimp only)
          have S8 : Hid (Sl w4 A8 l8 c8) := hs8
          clear hs8
          obtain ⟨qa0, qa1, qa2, qa3⟩ := Ka.out
          obtain ⟨qb0, qb1, qb2, qb3⟩ := Kb.out
          obtain ⟨qo0, qo1, qo2, qo3⟩ := Ko.out
          obtain ⟨fo0, fo1, fo2, fo3⟩ := Fo.out
          obtain ⟨q50, q51⟩ := K5.out
          obtain ⟨q60, q61⟩ := K6.out
          obtain ⟨q70, q71⟩ := K7.out
          replace hza := lF Ka
          replace hzb := lF Kb
          replace hzo := lF Ko
          replace hz5 := lW K5
          replace hz6 := lW K6
          have hz7 := lW K7
          have hka8 := hza
          have hkb8 := hzb
          have hko8 := hzo
          have hk58 := hz5
          have hk68 := hz6
          have hk78 := hz7
          go_wp2_with fail
          refine (rsub_any _ _ _ _ _ _ _ _ _ (S5.out.alloc _) (S6.out.alloc _)).mono ?_
          rw [e9.out]
          rintro e w5 ⟨A9', c9', rfl, hs9, hb⟩
          clear qa0 qa1 qa2 qa3 qb0 qb1 qb2 qb3 qo0 qo1 qo2 qo3 fo0 fo1 fo2 fo3 q50 q51 q60 q61 q70 q71
          replace S1 := kS1 S1 hb
          replace S2 := kS1 S2 hb
          replace S3 := kS1 S3 hb
          replace S4 := kS1 S4 hb
          replace S5 := kS1 S5 hb
          replace S6 := kS1 S6 hb
          replace S7 := kS1 S7 hb
          replace S8 := kS1 S8 hb
          replace Fo := kFf1 Fo Ko hb
          have F8 : Hid (Fw w5 w4.heap.size) := Fw.keep (Fw.fresh (by simp) _ _) (Cw.fresh (by simp) _ _ _ _ _) hb
          replace Ka := kF1 Ka hb
          replace Kb := kF1 Kb hb
          replace Ko := kF1 Ko hb
          replace K5 := kW1 K5 hb
          replace K6 := kW1 K6 hb
          replace K7 := kW1 K7 hb
          have K8 : Hid (Cw w5 w4.heap.size n8 A8 l8.length c8) := Cw.keep (Cw.fresh (by simp) _ _ _ _ _) hb
          replace B := kB1 B hb
          clear hb
          (try dsimp only at hs9)
          (try dsimp only)
          have S9 : Hid (Sl w5 A9' l9 c9') := hs9
          clear hs9
          obtain ⟨qo0, qo1, qo2, qo3⟩ := Ko.out
          obtain ⟨fo0, fo1, fo2, fo3⟩ := Fo.out
          obtain ⟨q70, q71⟩ := K7.out
          obtain ⟨q80, q81⟩ := K8.out
          obtain ⟨f80, f81⟩ := F8.out
          replace hza := lF Ka
          replace hzb := lF Kb
          replace hzo := lF Ko
          replace hz5 := lW K5
          replace hz6 := lW K6
          replace hz7 := lW K7
          have hz8 := lW K8
          go_wp2
          exact bodyPost_ret (v := .tuple #[.agg #[.bool false, .slice none 0 0, .bool false, .slice none 0 0], .int .i64 16]) (by simp [results, Tryz.results170, go_sem, qo0, qo1, qo2, qo3]) rfl (fres_store4 (r := zF) 16 (Sl.nil _ none 0) (Sl.nil _ none 0) (Cf.setW Ko.out (by omega) _ _) (below_setW B.out (by omega) _ _) (by omega) _ _ _ _)
        | true =>
          rw [if_pos (by simp)]
          obtain ⟨v9, rfl⟩ : VZ n9 l9 (x1 * y2 - x2 * y1) ∧ k9 = 0 := by
            rw [subS_z v5 v6 (fitB_iff.1 f3)] at r9
            obtain ⟨e1, e2⟩ := Prod.mk.inj r9
            exact ⟨vz_mk e1.symm (fitB_iff.1 f3), e2.symm⟩
          obtain ⟨⟨⟨na, la⟩, ⟨nb, lb⟩⟩, hr⟩ : ∃ r, r = redZ (x1 * y2 - x2 * y1) (y1 * y2) := ⟨_, rfl⟩
          have HR : Hid (∀ W A A' c c', Sl W A l9 c → Sl W A' l7 c' → Calls Tryz.prog 130 #[.agg #[.bool n9, .slice A l9.length c], .agg #[.bool n7, .slice A' l7.length c']] W (FRes1 ((na, la), (nb, lb)) W)) := fun W A A' c c' a b => by rw [hr]; exact rreduced_any n9 n7 A A' l9 l7 c c' _ _ v9 v7 hden W a b
          rw [← hr]
          clear hr
          clear h1 h2 h3 h4 r5 r6 r7 hden f0 f1 f2 f3 r8 r9 v5 v6 v7 v9
          go_enter Tryz.func170, Tryz.ntmps170
          go_wp2_with fail
          refine (rmul_any _ _ _ _ _ _ _ _ _ (((S1.out.alloc _).alloc _).alloc _) (((S4.out.alloc _).alloc _).alloc _)).mono ?_
          rw [e5.out]
          rintro e w1 ⟨A5, c5, rfl, hs5, hb⟩
          replace S1 := kS3 S1 hb
          replace S2 := kS3 S2 hb
          replace S3 := kS3 S3 hb
          replace S4 := kS3 S4 hb
          have Fo : Hid (Ff w1 (w.heap.size + 1 + 1)) := Ff.keep (Ff.fresh (by simp) _ _) (Cf.fresh (by simp) _ _ _ _ _ _ _ _ _) hb
          have Ka : Hid (Cf w1 w.heap.size n1 A1 l1.length c1 n2 A2 l2.length c2) := Cf.keep (Cf.keep (Cf.keep (Cf.fresh (by simp) _ _ _ _ _ _ _ _ _) (blw1 _ _)) (blw1 _ _)) hb
          have Kb : Hid (Cf w1 (w.heap.size + 1) n3 A3 l3.length c3 n4 A4 l4.length c4) := Cf.keep (Cf.keep (Cf.fresh (by simp) _ _ _ _ _ _ _ _ _) (blw1 _ _)) hb
          have Ko : Hid (Cf w1 (w.heap.size + 1 + 1) false none 0 0 false none 0 0) := Cf.keep (Cf.fresh (by simp) _ _ _ _ _ _ _ _ _) hb
          replace B := kB3 B hb
          clear hb
          (try dsimp only at hs5)
          (try dsimp only)
          have S5 : Hid (Sl w1 A5 l5 c5) := hs5
          clear hs5
          obtain ⟨qa0, qa1, qa2, qa3⟩ := Ka.out
          obtain ⟨qb0, qb1, qb2, qb3⟩ := Kb.out
          obtain ⟨qo0, qo1, qo2, qo3⟩ := Ko.out
          obtain ⟨fo0, fo1, fo2, fo3⟩ := Fo.out
          have hza := lF Ka
          have hzb := lF Kb
          have hzo := lF Ko
          have hka5 := hza
          have hkb5 := hzb
          have hko5 := hzo
          go_wp2_with fail
          refine (rmul_any _ _ _ _ _ _ _ _ _ (S3.out.alloc _) (S2.out.alloc _)).mono ?_
          rw [e6.out]
          rintro e w2 ⟨A6, c6, rfl, hs6, hb⟩
          clear qa0 qa1 qa2 qa3 qb0 qb1 qb2 qb3 qo0 qo1 qo2 qo3 fo0 fo1 fo2 fo3
          replace S1 := kS1 S1 hb
          replace S2 := kS1 S2 hb
          replace S3 := kS1 S3 hb
          replace S4 := kS1 S4 hb
          replace S5 := kS1 S5 hb
          replace Fo := kFf1 Fo Ko hb
          replace Ka := kF1 Ka hb
          replace Kb := kF1 Kb hb
          replace Ko := kF1 Ko hb
          have K5 : Hid (Cw w2 w1.heap.size n5 A5 l5.length c5) := Cw.keep (Cw.fresh (by simp) _ _ _ _ _) hb
          replace B := kB1 B hb
          clear hb
          (try dsimp only at hs6)
          (try dsimp only)
          have S6 : Hid (Sl w2 A6 l6 c6) := hs6
          clear hs6
          obtain ⟨qa0, qa1, qa2, qa3⟩ := Ka.out
          obtain ⟨qb0, qb1, qb2, qb3⟩ := Kb.out
          obtain ⟨qo0, qo1, qo2, qo3⟩ := Ko.out
          obtain ⟨fo0, fo1, fo2, fo3⟩ := Fo.out
          replace hza := lF Ka
          replace hzb := lF Kb
          replace hzo := lF Ko
          have hz5 := lW K5
          have hka6 := hza
          have hkb6 := hzb
          have hko6 := hzo
          have hk56 := hz5
          go_wp2_with fail
          refine (rmul_any _ _ _ _ _ _ _ _ _ (S2.out.alloc _) (S4.out.alloc _)).mono ?_
          rw [e7.out]
          rintro e w3 ⟨A7, c7, rfl, hs7, hb⟩
          clear qa0 qa1 qa2 qa3 qb0 qb1 qb2 qb3 qo0 qo1 qo2 qo3 fo0 fo1 fo2 fo3
          replace S1 := kS1 S1 hb
          replace S2 := kS1 S2 hb
          replace S3 := kS1 S3 hb
          replace S4 := kS1 S4 hb
          replace S5 := kS1 S5 hb
          replace S6 := kS1 S6 hb
          replace Fo := kFf1 Fo Ko hb
          replace Ka := kF1 Ka hb
          replace Kb := kF1 Kb hb
          replace Ko := kF1 Ko hb
          replace K5 := kW1 K5 hb
          have K6 : Hid (Cw w3 w2.heap.size n6 A6 l6.length c6) := Cw.keep (Cw.fresh (by simp) _ _ _ _ _) hb
          replace B := kB1 B hb
          clear hb
          (try dsimp only at hs7)
          (try dsimp only)
          have S7 : Hid (Sl w3 A7 l7 c7) := hs7
          clear hs7
          obtain ⟨qa0, qa1, qa2, qa3⟩ := Ka.out
          obtain ⟨qb0, qb1, qb2, qb3⟩ := Kb.out
          obtain ⟨qo0, qo1, qo2, qo3⟩ := Ko.out
          obtain ⟨fo0, fo1, fo2, fo3⟩ := Fo.out
          obtain ⟨q50, q51⟩ := K5.out
          obtain ⟨q60, q61⟩ := K6.out
          replace hza := lF Ka
          replace hzb := lF Kb
          replace hzo := lF Ko
          replace hz5 := lW K5
          have hz6 := lW K6
          have hka7 := hza
          have hkb7 := hzb
          have hko7 := hzo
          have hk57 := hz5
          have hk67 := hz6
          go_wp2_with fail
          refine (radd_any _ _ _ _ _ _ _ _ _ (S5.out.alloc _) (S6.out.alloc _)).mono ?_
          rw [e8.out]
          rintro e w4 ⟨A8, c8, rfl, hs8, hb⟩
          clear qa0 qa1 qa2 qa3 qb0 qb1 qb2 qb3 qo0 qo1 qo2 qo3 fo0 fo1 fo2 fo3 q50 q51 q60 q61
          replace S1 := kS1 S1 hb
          replace S2 := kS1 S2 hb
          replace S3 := kS1 S3 hb
          replace S4 := kS1 S4 hb
          replace S5 := kS1 S5 hb
          replace S6 := kS1 S6 hb
          replace S7 := kS1 S7 hb
          replace Fo := kFf1 Fo Ko hb
          replace Ka := kF1 Ka hb
          replace Kb := kF1 Kb hb
          replace Ko := kF1 Ko hb
          replace K5 := kW1 K5 hb
          replace K6 := kW1 K6 hb
          have K7 : Hid (Cw w4 w3.heap.size n7 A7 l7.length c7) := Cw.keep (Cw.fresh (by simp) _ _ _ _ _) hb
          replace B := kB1 B hb
          clear hb
          (try dsimp only at hs8)
          (try dsimp only)
          have S8 : Hid (Sl w4 A8 l8 c8) := hs8
          clear hs8
          obtain ⟨qa0, qa1, qa2, qa3⟩ := Ka.out
          obtain ⟨qb0, qb1, qb2, qb3⟩ := Kb.out
          obtain ⟨qo0, qo1, qo2, qo3⟩ := Ko.out
          obtain ⟨fo0, fo1, fo2, fo3⟩ := Fo.out
          obtain ⟨q50, q51⟩ := K5.out
          obtain ⟨q60, q61⟩ := K6.out
          obtain ⟨q70, q71⟩ := K7.out
          replace hza := lF Ka
          replace hzb := lF Kb
          replace hzo := lF Ko
          replace hz5 := lW K5
          replace hz6 := lW K6
          have hz7 := lW K7
          have hka8 := hza
          have hkb8 := hzb
          have hko8 := hzo
          have hk58 := hz5
          have hk68 := hz6
          have hk78 := hz7
          go_wp2_with fail
          refine (rsub_any _ _ _ _ _ _ _ _ _ (S5.out.alloc _) (S6.out.alloc _)).mono ?_
          rw [e9.out]
          rintro e w5 ⟨A9', c9', rfl, hs9, hb⟩
          clear qa0 qa1 qa2 qa3 qb0 qb1 qb2 qb3 qo0 qo1 qo2 qo3 fo0 fo1 fo2 fo3 q50 q51 q60 q61 q70 q71
          replace S1 := kS1 S1 hb
          replace S2 := kS1 S2 hb
          replace S3 := kS1 S3 hb
          replace S4 := kS1 S4 hb
          replace S5 := kS1 S5 hb
          replace S6 := kS1 S6 hb
          replace S7 := kS1 S7 hb
          replace S8 := kS1 S8 hb
          replace Fo := kFf1 Fo Ko hb
          have F8 : Hid (Fw w5 w4.heap.size) := Fw.keep (Fw.fresh (by simp) _ _) (Cw.fresh (by simp) _ _ _ _ _) hb
          replace Ka := kF1 Ka hb
          replace Kb := kF1 Kb hb
          replace Ko := kF1 Ko hb
          replace K5 := kW1 K5 hb
          replace K6 := kW1 K6 hb
          replace K7 := kW1 K7 hb
          have K8 : Hid (Cw w5 w4.heap.size n8 A8 l8.length c8) := Cw.keep (Cw.fresh (by simp) _ _ _ _ _) hb
          replace B := kB1 B hb
          clear hb
          (try dsimp only at hs9)
          (try dsimp only)
          have S9 : Hid (Sl w5 A9' l9 c9') := hs9
          clear hs9
          obtain ⟨qo0, qo1, qo2, qo3⟩ := Ko.out
          obtain ⟨fo0, fo1, fo2, fo3⟩ := Fo.out
          obtain ⟨q70, q71⟩ := K7.out
          obtain ⟨q80, q81⟩ := K8.out
          obtain ⟨f80, f81⟩ := F8.out
          replace hza := lF Ka
          replace hzb := lF Kb
          replace hzo := lF Ko
          replace hz5 := lW K5
          replace hz6 := lW K6
          replace hz7 := lW K7
          have hz8 := lW K8
          go_wp2_with fail
          refine (HR.out _ _ _ _ _ (S9.out.setW K8.out.1 K8.out.2 _ _) (S7.out.setW K8.out.1 K8.out.2 _ _)).mono ?_
          rintro e w6 ⟨A9, c9, B9, d9, rfl, hsx, hsy, hb⟩
          clear qo0 qo1 qo2 qo3 fo0 fo1 fo2 fo3 q70 q71 q80 q81 f80 f81
          replace S1 : Hid (Sl w6 A1 l1 c1) := Sl.below (S1.out.setW K8.out.1 K8.out.2 _ _) hb
          replace S2 : Hid (Sl w6 A2 l2 c2) := Sl.below (S2.out.setW K8.out.1 K8.out.2 _ _) hb
          replace S3 : Hid (Sl w6 A3 l3 c3) := Sl.below (S3.out.setW K8.out.1 K8.out.2 _ _) hb
          replace S4 : Hid (Sl w6 A4 l4 c4) := Sl.below (S4.out.setW K8.out.1 K8.out.2 _ _) hb
          replace S5 : Hid (Sl w6 A5 l5 c5) := Sl.below (S5.out.setW K8.out.1 K8.out.2 _ _) hb
          replace S6 : Hid (Sl w6 A6 l6 c6) := Sl.below (S6.out.setW K8.out.1 K8.out.2 _ _) hb
          replace S7 : Hid (Sl w6 A7 l7 c7) := Sl.below (S7.out.setW K8.out.1 K8.out.2 _ _) hb
          replace S8 : Hid (Sl w6 A8 l8 c8) := Sl.below (S8.out.setW K8.out.1 K8.out.2 _ _) hb
          replace S9 : Hid (Sl w6 A9' l9 c9') := Sl.below (S9.out.setW K8.out.1 K8.out.2 _ _) hb
          replace Fo : Hid (Ff w6 (w.heap.size + 1 + 1)) := Ff.keep (Ff.setW Fo.out _ _) (Cf.setW Ko.out (by omega) _ _) hb
          replace F8 : Hid (Fw w6 w4.heap.size) := Fw.keep (Fw.setW F8.out _ _) (Cw.new K8.out) hb
          replace Ka : Hid (Cf w6 w.heap.size n1 A1 l1.length c1 n2 A2 l2.length c2) := Cf.keep (Cf.setW Ka.out (by omega) _ _) hb
          replace Kb : Hid (Cf w6 (w.heap.size + 1) n3 A3 l3.length c3 n4 A4 l4.length c4) := Cf.keep (Cf.setW Kb.out (by omega) _ _) hb
          replace Ko : Hid (Cf w6 (w.heap.size + 1 + 1) false none 0 0 false none 0 0) := Cf.keep (Cf.setW Ko.out (by omega) _ _) hb
          replace K5 : Hid (Cw w6 w1.heap.size n5 A5 l5.length c5) := Cw.keep (Cw.setW K5.out (by omega) _ _) hb
          replace K6 : Hid (Cw w6 w2.heap.size n6 A6 l6.length c6) := Cw.keep (Cw.setW K6.out (by omega) _ _) hb
          replace K7 : Hid (Cw w6 w3.heap.size n7 A7 l7.length c7) := Cw.keep (Cw.setW K7.out (by omega) _ _) hb
          replace K8 : Hid (Cw w6 w4.heap.size n9 A9' l9.length c9') := Cw.keep (Cw.new K8.out) hb
          replace B : Hid (Below w.heap.size w w6) := below_mono (below_setW B.out (by omega) _ _) hb
          clear hb
          (try dsimp only at hsx hsy)
          (try dsimp only)
          have Sx : Hid (Sl w6 A9 la c9) := hsx
          clear hsx
          have Sy : Hid (Sl w6 B9 lb d9) := hsy
          clear hsy
          obtain ⟨qo0, qo1, qo2, qo3⟩ := Ko.out
          obtain ⟨fo0, fo1, fo2, fo3⟩ := Fo.out
          replace hza := lF Ka
          replace hzb := lF Kb
          replace hzo := lF Ko
          replace hz5 := lW K5
          replace hz6 := lW K6
          replace hz7 := lW K7
          replace hz8 := lW K8
          go_wp2_with fail
          exact bodyPost_ret (v := .tuple #[.agg #[.bool na, .slice A9 la.length c9, .bool nb, .slice B9 lb.length d9], .int .i64 0]) (by simp [results, Tryz.results170, go_sem, qo0, qo1, qo2, qo3]) rfl (fres_store4 (r := ((na, la), (nb, lb))) 0 Sx.out Sy.out Ko.out B.out (by omega) _ _ _ _)

end Go.Proofs.YtlekjkljajeodaaGreat
/- Walks: the reference's both, added, product, Add, Sub, Mul, Div. -/
namespace Go.Proofs.YtlekjkljajeodaaGreat
open Go.RowKit
attribute [local go_sem ↓] Go.wp_at_zero Go.wp_at_succ
set_option maxRecDepth 100000 in
set_option maxHeartbeats 2000000 in
theorem rsubF_any (n1 n2 n3 n4 : Bool) (A1 A2 A3 A4 : Option Addr) (l1 l2 l3 l4 : List Nat) (c1 c2 c3 c4 : Nat) (w : World) (hs1 : Sl w A1 l1 c1) (hs2 : Sl w A2 l2 c2) (hs3 : Sl w A3 l3 c3) (hs4 : Sl w A4 l4 c4) :
    Calls Tryz.prog 114 #[.agg #[.bool n1, .slice A1 l1.length c1, .bool n2, .slice A2 l2.length c2], .agg #[.bool n3, .slice A3 l3.length c3, .bool n4, .slice A4 l4.length c4]] w (FRes (bothF n1 l1 n2 l2 n3 l3 n4 l4 subV) w) := by
  have S1 := Lib.hid hs1
  have S2 := Lib.hid hs2
  have S3 := Lib.hid hs3
  have S4 := Lib.hid hs4
  have B : Hid (Below w.heap.size w w) := Below.refl _ _
  cases hb : badF n1 l1 n2 l2 || badF n3 l3 n4 l4 with
  | true =>
    have hr : bothF n1 l1 n2 l2 n3 l3 n4 l4 subV = (zF, 8) := by unfold bothF; rw [hb]; rfl
    have e1 : Hid (bothK n1 l1 n2 l2 n3 l3 n4 l4 = 8) := by unfold bothK; rw [hb]; rfl
    rw [hr]
    clear hr hb hs1 hs2 hs3 hs4
    go_enter Tryz.func114, Tryz.ntmps114
    go_wp2_with fail
    refine (rboth_any n1 n2 n3 n4 A1 A2 A3 A4 l1 l2 l3 l4 c1 c2 c3 c4 _ (((S1.out.alloc _).alloc _).alloc _) (((S2.out.alloc _).alloc _).alloc _) (((S3.out.alloc _).alloc _).alloc _) (((S4.out.alloc _).alloc _).alloc _)).mono ?_
    rw [e1.out]
    rintro e w1 ⟨rfl, hb⟩
    replace S1 := kS3 S1 hb
    replace S2 := kS3 S2 hb
    replace S3 := kS3 S3 hb
    replace S4 := kS3 S4 hb
    have Fo : Hid (Ff w1 (w.heap.size + 1 + 1)) := Ff.keep (Ff.fresh (by simp) _ _) (Cf.fresh (by simp) _ _ _ _ _ _ _ _ _) hb
    have Ka : Hid (Cf w1 w.heap.size n1 A1 l1.length c1 n2 A2 l2.length c2) := Cf.keep (Cf.keep (Cf.keep (Cf.fresh (by simp) _ _ _ _ _ _ _ _ _) (blw1 _ _)) (blw1 _ _)) hb
    have Kb : Hid (Cf w1 (w.heap.size + 1) n3 A3 l3.length c3 n4 A4 l4.length c4) := Cf.keep (Cf.keep (Cf.fresh (by simp) _ _ _ _ _ _ _ _ _) (blw1 _ _)) hb
    have Ko : Hid (Cf w1 (w.heap.size + 1 + 1) false none 0 0 false none 0 0) := Cf.keep (Cf.fresh (by simp) _ _ _ _ _ _ _ _ _) hb
    replace B := kB3 B hb
    clear hb
    obtain ⟨qa0, qa1, qa2, qa3⟩ := Ka.out
    obtain ⟨qb0, qb1, qb2, qb3⟩ := Kb.out
    obtain ⟨qo0, qo1, qo2, qo3⟩ := Ko.out
    obtain ⟨fo0, fo1, fo2, fo3⟩ := Fo.out
    have hza := lF Ka
    have hzb := lF Kb
    have hzo := lF Ko
    go_wp2_with fail
    refine (rboth_any n1 n2 n3 n4 A1 A2 A3 A4 l1 l2 l3 l4 c1 c2 c3 c4 _ S1.out S2.out S3.out S4.out).mono ?_
    rw [e1.out]
    rintro e w2 ⟨rfl, hb⟩
    clear qa0 qa1 qa2 qa3 qb0 qb1 qb2 qb3 qo0 qo1 qo2 qo3 fo0 fo1 fo2 fo3
    replace S1 := kS S1 hb
    replace S2 := kS S2 hb
    replace S3 := kS S3 hb
    replace S4 := kS S4 hb
    replace Fo := kFf Fo Ko hb
    replace Ka := kF Ka hb
    replace Kb := kF Kb hb
    replace Ko := kF Ko hb
    replace B := kB B hb
    clear hb
    obtain ⟨qa0, qa1, qa2, qa3⟩ := Ka.out
    obtain ⟨qb0, qb1, qb2, qb3⟩ := Kb.out
    obtain ⟨qo0, qo1, qo2, qo3⟩ := Ko.out
    obtain ⟨fo0, fo1, fo2, fo3⟩ := Fo.out
    replace hza := lF Ka
    replace hzb := lF Kb
    replace hzo := lF Ko
    go_wp2
    exact bodyPost_ret (v := .tuple #[.agg #[.bool false, .slice none 0 0, .bool false, .slice none 0 0], .int .i64 8]) (by simp [results, Tryz.results114, go_sem, qo0, qo1, qo2, qo3]) rfl (fres_store4 (r := zF) 8 (Sl.nil _ none 0) (Sl.nil _ none 0) Ko.out B.out (by omega) _ _ _ _)
  | false =>
    obtain ⟨hb1, hb2⟩ := Bool.or_eq_false_iff.1 hb
    have va := vf_of hs1.lim hs2.lim hb1
    have vb := vf_of hs3.lim hs4.lim hb2
    have e1 : Hid (bothK n1 l1 n2 l2 n3 l3 n4 l4 = 0) := by unfold bothK; rw [hb]; rfl
    rw [both_good va vb]
    obtain ⟨h1, h2, hp1, _⟩ := va
    obtain ⟨h3, h4, hp2, _⟩ := vb
    generalize zv n1 l1 = x1 at *
    generalize zv n2 l2 = y1 at *
    generalize zv n3 l3 = x2 at *
    generalize zv n4 l4 = y2 at *
    obtain ⟨⟨⟨⟨na, la⟩, ⟨nb, lb⟩⟩, k⟩, hr⟩ : ∃ r, r = subV x1 y1 x2 y2 := ⟨_, rfl⟩
    have HP : Hid (∀ W, Sl W A1 l1 c1 → Sl W A2 l2 c2 → Sl W A3 l3 c3 → Sl W A4 l4 c4 → Calls Tryz.prog 170 #[.agg #[.bool n1, .slice A1 l1.length c1, .bool n2, .slice A2 l2.length c2], .agg #[.bool n3, .slice A3 l3.length c3, .bool n4, .slice A4 l4.length c4], .bool true] W (FRes (((na, la), (nb, lb)), k) W)) := fun W a b c d => by rw [hr]; exact radded_sub n1 n2 n3 n4 A1 A2 A3 A4 l1 l2 l3 l4 c1 c2 c3 c4 x1 y1 x2 y2 h1 h2 h3 h4 (Int.mul_ne_zero (by omega) (by omega)) W a b c d
    rw [← hr]
    clear hr hb hb1 hb2 h1 h2 h3 h4 hp1 hp2 hs1 hs2 hs3 hs4
    go_enter Tryz.func114, Tryz.ntmps114
    go_wp2_with fail
    refine (rboth_any n1 n2 n3 n4 A1 A2 A3 A4 l1 l2 l3 l4 c1 c2 c3 c4 _ (((S1.out.alloc _).alloc _).alloc _) (((S2.out.alloc _).alloc _).alloc _) (((S3.out.alloc _).alloc _).alloc _) (((S4.out.alloc _).alloc _).alloc _)).mono ?_
    rw [e1.out]
    rintro e w1 ⟨rfl, hb⟩
    replace S1 := kS3 S1 hb
    replace S2 := kS3 S2 hb
    replace S3 := kS3 S3 hb
    replace S4 := kS3 S4 hb
    have Fo : Hid (Ff w1 (w.heap.size + 1 + 1)) := Ff.keep (Ff.fresh (by simp) _ _) (Cf.fresh (by simp) _ _ _ _ _ _ _ _ _) hb
    have Ka : Hid (Cf w1 w.heap.size n1 A1 l1.length c1 n2 A2 l2.length c2) := Cf.keep (Cf.keep (Cf.keep (Cf.fresh (by simp) _ _ _ _ _ _ _ _ _) (blw1 _ _)) (blw1 _ _)) hb
    have Kb : Hid (Cf w1 (w.heap.size + 1) n3 A3 l3.length c3 n4 A4 l4.length c4) := Cf.keep (Cf.keep (Cf.fresh (by simp) _ _ _ _ _ _ _ _ _) (blw1 _ _)) hb
    have Ko : Hid (Cf w1 (w.heap.size + 1 + 1) false none 0 0 false none 0 0) := Cf.keep (Cf.fresh (by simp) _ _ _ _ _ _ _ _ _) hb
    replace B := kB3 B hb
    clear hb
    obtain ⟨qa0, qa1, qa2, qa3⟩ := Ka.out
    obtain ⟨qb0, qb1, qb2, qb3⟩ := Kb.out
    obtain ⟨qo0, qo1, qo2, qo3⟩ := Ko.out
    obtain ⟨fo0, fo1, fo2, fo3⟩ := Fo.out
    have hza := lF Ka
    have hzb := lF Kb
    have hzo := lF Ko
    go_wp2_with fail
    refine (HP.out _ S1.out S2.out S3.out S4.out).mono ?_
    rintro e w2 ⟨A9, c9, B9, d9, rfl, hsx, hsy, hb⟩
    clear qa0 qa1 qa2 qa3 qb0 qb1 qb2 qb3 qo0 qo1 qo2 qo3 fo0 fo1 fo2 fo3
    replace S1 := kS S1 hb
    replace S2 := kS S2 hb
    replace S3 := kS S3 hb
    replace S4 := kS S4 hb
    replace Fo := kFf Fo Ko hb
    replace Ka := kF Ka hb
    replace Kb := kF Kb hb
    replace Ko := kF Ko hb
    replace B := kB B hb
    clear hb
    (try dsimp only at hsx hsy)
    (try dsimp only)
    have Sx : Hid (Sl w2 A9 la c9) := hsx
    clear hsx
    have Sy : Hid (Sl w2 B9 lb d9) := hsy
    clear hsy
    obtain ⟨qo0, qo1, qo2, qo3⟩ := Ko.out
    obtain ⟨fo0, fo1, fo2, fo3⟩ := Fo.out
    replace hza := lF Ka
    replace hzb := lF Kb
    replace hzo := lF Ko
    go_wp2_with fail
    exact bodyPost_ret (v := .tuple #[.agg #[.bool na, .slice A9 la.length c9, .bool nb, .slice B9 lb.length d9], .int .i64 k]) (by simp [results, Tryz.results114, go_sem, qo0, qo1, qo2, qo3]) rfl (fres_store4 (r := ((na, la), (nb, lb))) k Sx.out Sy.out Ko.out B.out (by omega) _ _ _ _)

set_option maxRecDepth 100000 in
set_option maxHeartbeats 2000000 in
theorem rmulF_any (n1 n2 n3 n4 : Bool) (A1 A2 A3 A4 : Option Addr) (l1 l2 l3 l4 : List Nat) (c1 c2 c3 c4 : Nat) (w : World) (hs1 : Sl w A1 l1 c1) (hs2 : Sl w A2 l2 c2) (hs3 : Sl w A3 l3 c3) (hs4 : Sl w A4 l4 c4) :
    Calls Tryz.prog 112 #[.agg #[.bool n1, .slice A1 l1.length c1, .bool n2, .slice A2 l2.length c2], .agg #[.bool n3, .slice A3 l3.length c3, .bool n4, .slice A4 l4.length c4]] w (FRes (bothF n1 l1 n2 l2 n3 l3 n4 l4 mulV) w) := by
  have S1 := Lib.hid hs1
  have S2 := Lib.hid hs2
  have S3 := Lib.hid hs3
  have S4 := Lib.hid hs4
  have B : Hid (Below w.heap.size w w) := Below.refl _ _
  cases hb : badF n1 l1 n2 l2 || badF n3 l3 n4 l4 with
  | true =>
    have hr : bothF n1 l1 n2 l2 n3 l3 n4 l4 mulV = (zF, 8) := by unfold bothF; rw [hb]; rfl
    have e1 : Hid (bothK n1 l1 n2 l2 n3 l3 n4 l4 = 8) := by unfold bothK; rw [hb]; rfl
    rw [hr]
    clear hr hb hs1 hs2 hs3 hs4
    go_enter Tryz.func112, Tryz.ntmps112
    go_wp2_with fail
    refine (rboth_any n1 n2 n3 n4 A1 A2 A3 A4 l1 l2 l3 l4 c1 c2 c3 c4 _ (((S1.out.alloc _).alloc _).alloc _) (((S2.out.alloc _).alloc _).alloc _) (((S3.out.alloc _).alloc _).alloc _) (((S4.out.alloc _).alloc _).alloc _)).mono ?_
    rw [e1.out]
    rintro e w1 ⟨rfl, hb⟩
    replace S1 := kS3 S1 hb
    replace S2 := kS3 S2 hb
    replace S3 := kS3 S3 hb
    replace S4 := kS3 S4 hb
    have Fo : Hid (Ff w1 (w.heap.size + 1 + 1)) := Ff.keep (Ff.fresh (by simp) _ _) (Cf.fresh (by simp) _ _ _ _ _ _ _ _ _) hb
    have Ka : Hid (Cf w1 w.heap.size n1 A1 l1.length c1 n2 A2 l2.length c2) := Cf.keep (Cf.keep (Cf.keep (Cf.fresh (by simp) _ _ _ _ _ _ _ _ _) (blw1 _ _)) (blw1 _ _)) hb
    have Kb : Hid (Cf w1 (w.heap.size + 1) n3 A3 l3.length c3 n4 A4 l4.length c4) := Cf.keep (Cf.keep (Cf.fresh (by simp) _ _ _ _ _ _ _ _ _) (blw1 _ _)) hb
    have Ko : Hid (Cf w1 (w.heap.size + 1 + 1) false none 0 0 false none 0 0) := Cf.keep (Cf.fresh (by simp) _ _ _ _ _ _ _ _ _) hb
    replace B := kB3 B hb
    clear hb
    obtain ⟨qa0, qa1, qa2, qa3⟩ := Ka.out
    obtain ⟨qb0, qb1, qb2, qb3⟩ := Kb.out
    obtain ⟨qo0, qo1, qo2, qo3⟩ := Ko.out
    obtain ⟨fo0, fo1, fo2, fo3⟩ := Fo.out
    have hza := lF Ka
    have hzb := lF Kb
    have hzo := lF Ko
    go_wp2_with fail
    refine (rboth_any n1 n2 n3 n4 A1 A2 A3 A4 l1 l2 l3 l4 c1 c2 c3 c4 _ S1.out S2.out S3.out S4.out).mono ?_
    rw [e1.out]
    rintro e w2 ⟨rfl, hb⟩
    clear qa0 qa1 qa2 qa3 qb0 qb1 qb2 qb3 qo0 qo1 qo2 qo3 fo0 fo1 fo2 fo3
    replace S1 := kS S1 hb
    replace S2 := kS S2 hb
    replace S3 := kS S3 hb
    replace S4 := kS S4 hb
    replace Fo := kFf Fo Ko hb
    replace Ka := kF Ka hb
    replace Kb := kF Kb hb
    replace Ko := kF Ko hb
    replace B := kB B hb
    clear hb
    obtain ⟨qa0, qa1, qa2, qa3⟩ := Ka.out
    obtain ⟨qb0, qb1, qb2, qb3⟩ := Kb.out
    obtain ⟨qo0, qo1, qo2, qo3⟩ := Ko.out
    obtain ⟨fo0, fo1, fo2, fo3⟩ := Fo.out
    replace hza := lF Ka
    replace hzb := lF Kb
    replace hzo := lF Ko
    go_wp2
    exact bodyPost_ret (v := .tuple #[.agg #[.bool false, .slice none 0 0, .bool false, .slice none 0 0], .int .i64 8]) (by simp [results, Tryz.results112, go_sem, qo0, qo1, qo2, qo3]) rfl (fres_store4 (r := zF) 8 (Sl.nil _ none 0) (Sl.nil _ none 0) Ko.out B.out (by omega) _ _ _ _)
  | false =>
    obtain ⟨hb1, hb2⟩ := Bool.or_eq_false_iff.1 hb
    have va := vf_of hs1.lim hs2.lim hb1
    have vb := vf_of hs3.lim hs4.lim hb2
    have e1 : Hid (bothK n1 l1 n2 l2 n3 l3 n4 l4 = 0) := by unfold bothK; rw [hb]; rfl
    rw [both_good va vb]
    obtain ⟨h1, h2, hp1, _⟩ := va
    obtain ⟨h3, h4, hp2, _⟩ := vb
    generalize zv n1 l1 = x1 at *
    generalize zv n2 l2 = y1 at *
    generalize zv n3 l3 = x2 at *
    generalize zv n4 l4 = y2 at *
    unfold mulV
    obtain ⟨⟨⟨⟨na, la⟩, ⟨nb, lb⟩⟩, k⟩, hr⟩ : ∃ r, r = outF (fitB (x1 * x2) && fitB (y1 * y2)) (x1 * x2) (y1 * y2) := ⟨_, rfl⟩
    have HP : Hid (∀ W, Sl W A1 l1 c1 → Sl W A2 l2 c2 → Sl W A3 l3 c3 → Sl W A4 l4 c4 → Calls Tryz.prog 169 #[.agg #[.bool n1, .slice A1 l1.length c1], .agg #[.bool n3, .slice A3 l3.length c3], .agg #[.bool n2, .slice A2 l2.length c2], .agg #[.bool n4, .slice A4 l4.length c4]] W (FRes (((na, la), (nb, lb)), k) W)) := fun W a b c d => by rw [hr]; exact rproduct_any n1 n3 n2 n4 A1 A3 A2 A4 l1 l3 l2 l4 c1 c3 c2 c4 x1 x2 y1 y2 h1 h3 h2 h4 (Int.mul_ne_zero (by omega) (by omega)) W a c b d
    rw [← hr]
    clear hr hb hb1 hb2 h1 h2 h3 h4 hp1 hp2 hs1 hs2 hs3 hs4
    go_enter Tryz.func112, Tryz.ntmps112
    go_wp2_with fail
    refine (rboth_any n1 n2 n3 n4 A1 A2 A3 A4 l1 l2 l3 l4 c1 c2 c3 c4 _ (((S1.out.alloc _).alloc _).alloc _) (((S2.out.alloc _).alloc _).alloc _) (((S3.out.alloc _).alloc _).alloc _) (((S4.out.alloc _).alloc _).alloc _)).mono ?_
    rw [e1.out]
    rintro e w1 ⟨rfl, hb⟩
    replace S1 := kS3 S1 hb
    replace S2 := kS3 S2 hb
    replace S3 := kS3 S3 hb
    replace S4 := kS3 S4 hb
    have Fo : Hid (Ff w1 (w.heap.size + 1 + 1)) := Ff.keep (Ff.fresh (by simp) _ _) (Cf.fresh (by simp) _ _ _ _ _ _ _ _ _) hb
    have Ka : Hid (Cf w1 w.heap.size n1 A1 l1.length c1 n2 A2 l2.length c2) := Cf.keep (Cf.keep (Cf.keep (Cf.fresh (by simp) _ _ _ _ _ _ _ _ _) (blw1 _ _)) (blw1 _ _)) hb
    have Kb : Hid (Cf w1 (w.heap.size + 1) n3 A3 l3.length c3 n4 A4 l4.length c4) := Cf.keep (Cf.keep (Cf.fresh (by simp) _ _ _ _ _ _ _ _ _) (blw1 _ _)) hb
    have Ko : Hid (Cf w1 (w.heap.size + 1 + 1) false none 0 0 false none 0 0) := Cf.keep (Cf.fresh (by simp) _ _ _ _ _ _ _ _ _) hb
    replace B := kB3 B hb
    clear hb
    obtain ⟨qa0, qa1, qa2, qa3⟩ := Ka.out
    obtain ⟨qb0, qb1, qb2, qb3⟩ := Kb.out
    obtain ⟨qo0, qo1, qo2, qo3⟩ := Ko.out
    obtain ⟨fo0, fo1, fo2, fo3⟩ := Fo.out
    have hza := lF Ka
    have hzb := lF Kb
    have hzo := lF Ko
    go_wp2_with fail
    refine (HP.out _ S1.out S2.out S3.out S4.out).mono ?_
    rintro e w2 ⟨A9, c9, B9, d9, rfl, hsx, hsy, hb⟩
    clear qa0 qa1 qa2 qa3 qb0 qb1 qb2 qb3 qo0 qo1 qo2 qo3 fo0 fo1 fo2 fo3
    replace S1 := kS S1 hb
    replace S2 := kS S2 hb
    replace S3 := kS S3 hb
    replace S4 := kS S4 hb
    replace Fo := kFf Fo Ko hb
    replace Ka := kF Ka hb
    replace Kb := kF Kb hb
    replace Ko := kF Ko hb
    replace B := kB B hb
    clear hb
    (try dsimp only at hsx hsy)
    (try dsimp only)
    have Sx : Hid (Sl w2 A9 la c9) := hsx
    clear hsx
    have Sy : Hid (Sl w2 B9 lb d9) := hsy
    clear hsy
    obtain ⟨qo0, qo1, qo2, qo3⟩ := Ko.out
    obtain ⟨fo0, fo1, fo2, fo3⟩ := Fo.out
    replace hza := lF Ka
    replace hzb := lF Kb
    replace hzo := lF Ko
    go_wp2_with fail
    exact bodyPost_ret (v := .tuple #[.agg #[.bool na, .slice A9 la.length c9, .bool nb, .slice B9 lb.length d9], .int .i64 k]) (by simp [results, Tryz.results112, go_sem, qo0, qo1, qo2, qo3]) rfl (fres_store4 (r := ((na, la), (nb, lb))) k Sx.out Sy.out Ko.out B.out (by omega) _ _ _ _)

set_option maxRecDepth 100000 in
set_option maxHeartbeats 2000000 in
theorem rdivF_any (n1 n2 n3 n4 : Bool) (A1 A2 A3 A4 : Option Addr) (l1 l2 l3 l4 : List Nat) (c1 c2 c3 c4 : Nat) (w : World) (hs1 : Sl w A1 l1 c1) (hs2 : Sl w A2 l2 c2) (hs3 : Sl w A3 l3 c3) (hs4 : Sl w A4 l4 c4) :
    Calls Tryz.prog 115 #[.agg #[.bool n1, .slice A1 l1.length c1, .bool n2, .slice A2 l2.length c2], .agg #[.bool n3, .slice A3 l3.length c3, .bool n4, .slice A4 l4.length c4]] w (FRes (bothF n1 l1 n2 l2 n3 l3 n4 l4 divV) w) := by
  have S1 := Lib.hid hs1
  have S2 := Lib.hid hs2
  have S3 := Lib.hid hs3
  have S4 := Lib.hid hs4
  have B : Hid (Below w.heap.size w w) := Below.refl _ _
  cases hb : badF n1 l1 n2 l2 || badF n3 l3 n4 l4 with
  | true =>
    have hr : bothF n1 l1 n2 l2 n3 l3 n4 l4 divV = (zF, 8) := by unfold bothF; rw [hb]; rfl
    have e1 : Hid (bothK n1 l1 n2 l2 n3 l3 n4 l4 = 8) := by unfold bothK; rw [hb]; rfl
    rw [hr]
    clear hr hb hs1 hs2 hs3 hs4
    go_enter Tryz.func115, Tryz.ntmps115
    go_wp2_with fail
    refine (rboth_any n1 n2 n3 n4 A1 A2 A3 A4 l1 l2 l3 l4 c1 c2 c3 c4 _ (((S1.out.alloc _).alloc _).alloc _) (((S2.out.alloc _).alloc _).alloc _) (((S3.out.alloc _).alloc _).alloc _) (((S4.out.alloc _).alloc _).alloc _)).mono ?_
    rw [e1.out]
    rintro e w1 ⟨rfl, hb⟩
    replace S1 := kS3 S1 hb
    replace S2 := kS3 S2 hb
    replace S3 := kS3 S3 hb
    replace S4 := kS3 S4 hb
    have Fo : Hid (Ff w1 (w.heap.size + 1 + 1)) := Ff.keep (Ff.fresh (by simp) _ _) (Cf.fresh (by simp) _ _ _ _ _ _ _ _ _) hb
    have Ka : Hid (Cf w1 w.heap.size n1 A1 l1.length c1 n2 A2 l2.length c2) := Cf.keep (Cf.keep (Cf.keep (Cf.fresh (by simp) _ _ _ _ _ _ _ _ _) (blw1 _ _)) (blw1 _ _)) hb
    have Kb : Hid (Cf w1 (w.heap.size + 1) n3 A3 l3.length c3 n4 A4 l4.length c4) := Cf.keep (Cf.keep (Cf.fresh (by simp) _ _ _ _ _ _ _ _ _) (blw1 _ _)) hb
    have Ko : Hid (Cf w1 (w.heap.size + 1 + 1) false none 0 0 false none 0 0) := Cf.keep (Cf.fresh (by simp) _ _ _ _ _ _ _ _ _) hb
    replace B := kB3 B hb
    clear hb
    obtain ⟨qa0, qa1, qa2, qa3⟩ := Ka.out
    obtain ⟨qb0, qb1, qb2, qb3⟩ := Kb.out
    obtain ⟨qo0, qo1, qo2, qo3⟩ := Ko.out
    obtain ⟨fo0, fo1, fo2, fo3⟩ := Fo.out
    have hza := lF Ka
    have hzb := lF Kb
    have hzo := lF Ko
    go_wp2_with fail
    refine (rboth_any n1 n2 n3 n4 A1 A2 A3 A4 l1 l2 l3 l4 c1 c2 c3 c4 _ S1.out S2.out S3.out S4.out).mono ?_
    rw [e1.out]
    rintro e w2 ⟨rfl, hb⟩
    clear qa0 qa1 qa2 qa3 qb0 qb1 qb2 qb3 qo0 qo1 qo2 qo3 fo0 fo1 fo2 fo3
    replace S1 := kS S1 hb
    replace S2 := kS S2 hb
    replace S3 := kS S3 hb
    replace S4 := kS S4 hb
    replace Fo := kFf Fo Ko hb
    replace Ka := kF Ka hb
    replace Kb := kF Kb hb
    replace Ko := kF Ko hb
    replace B := kB B hb
    clear hb
    obtain ⟨qa0, qa1, qa2, qa3⟩ := Ka.out
    obtain ⟨qb0, qb1, qb2, qb3⟩ := Kb.out
    obtain ⟨qo0, qo1, qo2, qo3⟩ := Ko.out
    obtain ⟨fo0, fo1, fo2, fo3⟩ := Fo.out
    replace hza := lF Ka
    replace hzb := lF Kb
    replace hzo := lF Ko
    go_wp2
    exact bodyPost_ret (v := .tuple #[.agg #[.bool false, .slice none 0 0, .bool false, .slice none 0 0], .int .i64 8]) (by simp [results, Tryz.results115, go_sem, qo0, qo1, qo2, qo3]) rfl (fres_store4 (r := zF) 8 (Sl.nil _ none 0) (Sl.nil _ none 0) Ko.out B.out (by omega) _ _ _ _)
  | false =>
    obtain ⟨hb1, hb2⟩ := Bool.or_eq_false_iff.1 hb
    have va := vf_of hs1.lim hs2.lim hb1
    have vb := vf_of hs3.lim hs4.lim hb2
    have e1 : Hid (bothK n1 l1 n2 l2 n3 l3 n4 l4 = 0) := by unfold bothK; rw [hb]; rfl
    rw [both_good va vb]
    obtain ⟨h1, h2, hp1, _⟩ := va
    obtain ⟨h3, h4, hp2, _⟩ := vb
    generalize zv n1 l1 = x1 at *
    generalize zv n2 l2 = y1 at *
    generalize zv n3 l3 = x2 at *
    generalize zv n4 l4 = y2 at *
    by_cases hz : x2 = 0
    · have Hz : ((l3.length : Int) == 0) = true := by rw [beq_iff_eq]; have := h3.zero.2 hz; omega
      have hr : divV x1 y1 x2 y2 = (zF, 18) := by unfold divV; rw [if_pos hz]
      rw [hr]
      clear hr hb hb1 hb2 h1 h2 h3 h4 hp1 hp2 hz hs1 hs2 hs3 hs4
      go_enter Tryz.func115, Tryz.ntmps115
      go_wp2_with fail
      refine (rboth_any n1 n2 n3 n4 A1 A2 A3 A4 l1 l2 l3 l4 c1 c2 c3 c4 _ (((S1.out.alloc _).alloc _).alloc _) (((S2.out.alloc _).alloc _).alloc _) (((S3.out.alloc _).alloc _).alloc _) (((S4.out.alloc _).alloc _).alloc _)).mono ?_
      rw [e1.out]
      rintro e w1 ⟨rfl, hb⟩
      replace S1 := kS3 S1 hb
      replace S2 := kS3 S2 hb
      replace S3 := kS3 S3 hb
      replace S4 := kS3 S4 hb
      have Fo : Hid (Ff w1 (w.heap.size + 1 + 1)) := Ff.keep (Ff.fresh (by simp) _ _) (Cf.fresh (by simp) _ _ _ _ _ _ _ _ _) hb
      have Ka : Hid (Cf w1 w.heap.size n1 A1 l1.length c1 n2 A2 l2.length c2) := Cf.keep (Cf.keep (Cf.keep (Cf.fresh (by simp) _ _ _ _ _ _ _ _ _) (blw1 _ _)) (blw1 _ _)) hb
      have Kb : Hid (Cf w1 (w.heap.size + 1) n3 A3 l3.length c3 n4 A4 l4.length c4) := Cf.keep (Cf.keep (Cf.fresh (by simp) _ _ _ _ _ _ _ _ _) (blw1 _ _)) hb
      have Ko : Hid (Cf w1 (w.heap.size + 1 + 1) false none 0 0 false none 0 0) := Cf.keep (Cf.fresh (by simp) _ _ _ _ _ _ _ _ _) hb
      replace B := kB3 B hb
      clear hb
      obtain ⟨qa0, qa1, qa2, qa3⟩ := Ka.out
      obtain ⟨qb0, qb1, qb2, qb3⟩ := Kb.out
      obtain ⟨qo0, qo1, qo2, qo3⟩ := Ko.out
      obtain ⟨fo0, fo1, fo2, fo3⟩ := Fo.out
      have hza := lF Ka
      have hzb := lF Kb
      have hzo := lF Ko
      go_wp2
      exact bodyPost_ret (v := .tuple #[.agg #[.bool false, .slice none 0 0, .bool false, .slice none 0 0], .int .i64 18]) (by simp [results, Tryz.results115, go_sem, qo0, qo1, qo2, qo3]) rfl (fres_store4 (r := zF) 18 (Sl.nil _ none 0) (Sl.nil _ none 0) Ko.out B.out (by omega) _ _ _ _)
    · have Hz : ((l3.length : Int) == 0) = false := by rw [beq_eq_false_iff_ne]; intro e; exact hz (h3.zero.1 (by omega))
      have hdv : divV x1 y1 x2 y2 = outF (fitB (x1 * y2) && fitB (y1 * x2)) (x1 * y2) (y1 * x2) := by unfold divV; rw [if_neg hz]
      rw [hdv]
      obtain ⟨⟨⟨⟨na, la⟩, ⟨nb, lb⟩⟩, k⟩, hr⟩ : ∃ r, r = outF (fitB (x1 * y2) && fitB (y1 * x2)) (x1 * y2) (y1 * x2) := ⟨_, rfl⟩
      have HP : Hid (∀ W, Sl W A1 l1 c1 → Sl W A2 l2 c2 → Sl W A3 l3 c3 → Sl W A4 l4 c4 → Calls Tryz.prog 169 #[.agg #[.bool n1, .slice A1 l1.length c1], .agg #[.bool n4, .slice A4 l4.length c4], .agg #[.bool n2, .slice A2 l2.length c2], .agg #[.bool n3, .slice A3 l3.length c3]] W (FRes (((na, la), (nb, lb)), k) W)) := fun W a b c d => by rw [hr]; exact rproduct_any n1 n4 n2 n3 A1 A4 A2 A3 l1 l4 l2 l3 c1 c4 c2 c3 x1 y2 y1 x2 h1 h4 h2 h3 (Int.mul_ne_zero (by omega) (by omega)) W a d b c
      rw [← hr]
      clear hr hb hb1 hb2 h1 h2 h3 h4 hp1 hp2 hz hdv hs1 hs2 hs3 hs4
      go_enter Tryz.func115, Tryz.ntmps115
      go_wp2_with fail
      refine (rboth_any n1 n2 n3 n4 A1 A2 A3 A4 l1 l2 l3 l4 c1 c2 c3 c4 _ (((S1.out.alloc _).alloc _).alloc _) (((S2.out.alloc _).alloc _).alloc _) (((S3.out.alloc _).alloc _).alloc _) (((S4.out.alloc _).alloc _).alloc _)).mono ?_
      rw [e1.out]
      rintro e w1 ⟨rfl, hb⟩
      replace S1 := kS3 S1 hb
      replace S2 := kS3 S2 hb
      replace S3 := kS3 S3 hb
      replace S4 := kS3 S4 hb
      have Fo : Hid (Ff w1 (w.heap.size + 1 + 1)) := Ff.keep (Ff.fresh (by simp) _ _) (Cf.fresh (by simp) _ _ _ _ _ _ _ _ _) hb
      have Ka : Hid (Cf w1 w.heap.size n1 A1 l1.length c1 n2 A2 l2.length c2) := Cf.keep (Cf.keep (Cf.keep (Cf.fresh (by simp) _ _ _ _ _ _ _ _ _) (blw1 _ _)) (blw1 _ _)) hb
      have Kb : Hid (Cf w1 (w.heap.size + 1) n3 A3 l3.length c3 n4 A4 l4.length c4) := Cf.keep (Cf.keep (Cf.fresh (by simp) _ _ _ _ _ _ _ _ _) (blw1 _ _)) hb
      have Ko : Hid (Cf w1 (w.heap.size + 1 + 1) false none 0 0 false none 0 0) := Cf.keep (Cf.fresh (by simp) _ _ _ _ _ _ _ _ _) hb
      replace B := kB3 B hb
      clear hb
      obtain ⟨qa0, qa1, qa2, qa3⟩ := Ka.out
      obtain ⟨qb0, qb1, qb2, qb3⟩ := Kb.out
      obtain ⟨qo0, qo1, qo2, qo3⟩ := Ko.out
      obtain ⟨fo0, fo1, fo2, fo3⟩ := Fo.out
      have hza := lF Ka
      have hzb := lF Kb
      have hzo := lF Ko
      go_wp2_with fail
      refine (HP.out _ S1.out S2.out S3.out S4.out).mono ?_
      rintro e w2 ⟨A9, c9, B9, d9, rfl, hsx, hsy, hb⟩
      clear qa0 qa1 qa2 qa3 qb0 qb1 qb2 qb3 qo0 qo1 qo2 qo3 fo0 fo1 fo2 fo3
      replace S1 := kS S1 hb
      replace S2 := kS S2 hb
      replace S3 := kS S3 hb
      replace S4 := kS S4 hb
      replace Fo := kFf Fo Ko hb
      replace Ka := kF Ka hb
      replace Kb := kF Kb hb
      replace Ko := kF Ko hb
      replace B := kB B hb
      clear hb
      (try dsimp only at hsx hsy)
      (try dsimp only)
      have Sx : Hid (Sl w2 A9 la c9) := hsx
      clear hsx
      have Sy : Hid (Sl w2 B9 lb d9) := hsy
      clear hsy
      obtain ⟨qo0, qo1, qo2, qo3⟩ := Ko.out
      obtain ⟨fo0, fo1, fo2, fo3⟩ := Fo.out
      replace hza := lF Ka
      replace hzb := lF Kb
      replace hzo := lF Ko
      go_wp2_with fail
      exact bodyPost_ret (v := .tuple #[.agg #[.bool na, .slice A9 la.length c9, .bool nb, .slice B9 lb.length d9], .int .i64 k]) (by simp [results, Tryz.results115, go_sem, qo0, qo1, qo2, qo3]) rfl (fres_store4 (r := ((na, la), (nb, lb))) k Sx.out Sy.out Ko.out B.out (by omega) _ _ _ _)

end Go.Proofs.YtlekjkljajeodaaGreat

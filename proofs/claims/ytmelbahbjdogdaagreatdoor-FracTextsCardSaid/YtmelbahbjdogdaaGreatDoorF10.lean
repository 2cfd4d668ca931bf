/- Walks: the reference's both, added, product, Add, Sub, Mul, Div. -/
import Derived.Test.YtmelbahbjdogdaaGreatDoorF3
import Derived.Test.YtmelbahbjdogdaaGreatDoorFMath
import Derived.Test.YtmelbahbjdogdaaGreatDoorF6
import Derived.Test.YtmelbahbjdogdaaGreatDoorW20
namespace Go.Proofs.YtmelbahbjdogdaaGreatDoor
open Go.RowKit
attribute [local go_sem ↓] Go.wp_at_zero Go.wp_at_succ
theorem FRes.alloc {r : ((Bool × List Nat) × (Bool × List Nat)) × Int} {w w' : World} {e : Ending} (h : FRes r w e w') (o : Obj) : FRes r w e (w'.alloc o) := by
  obtain ⟨A, c, A', c', rfl, h1, h2, hb⟩ := h
  exact ⟨A, c, A', c', rfl, h1.alloc o, h2.alloc o, below_mono hb (blw1 _ _)⟩

set_option maxRecDepth 100000 in
set_option maxHeartbeats 2000000 in
theorem rproduct_any (n1 n2 n3 n4 : Bool) (A1 A2 A3 A4 : Option Addr) (l1 l2 l3 l4 : List Nat) (c1 c2 c3 c4 : Nat) (x1 x2 y1 y2 : Int) (h1 : VZ n1 l1 x1) (h2 : VZ n2 l2 x2) (h3 : VZ n3 l3 y1) (h4 : VZ n4 l4 y2) (hden : y1 * y2 ≠ 0) (w : World) (hs1 : Sl w A1 l1 c1) (hs2 : Sl w A2 l2 c2) (hs3 : Sl w A3 l3 c3) (hs4 : Sl w A4 l4 c4) :
    Calls Tryz.prog 69 #[.agg #[.bool n1, .slice A1 l1.length c1], .agg #[.bool n2, .slice A2 l2.length c2], .agg #[.bool n3, .slice A3 l3.length c3], .agg #[.bool n4, .slice A4 l4.length c4]] w (FRes (outF (fitB (x1 * x2) && fitB (y1 * y2)) (x1 * x2) (y1 * y2)) w) := by
  have S1 := Lib.hid hs1
  have S2 := Lib.hid hs2
  have S3 := Lib.hid hs3
  have S4 := Lib.hid hs4
  have B : Hid (Below w.heap.size w w) := Below.refl _ _
  unfold outF
  obtain ⟨⟨⟨n5, l5⟩, k5⟩, r5⟩ : ∃ r, mulS n1 l1 n2 l2 = r := ⟨_, rfl⟩
  obtain ⟨⟨⟨n6, l6⟩, k6⟩, r6⟩ : ∃ r, mulS n3 l3 n4 l4 = r := ⟨_, rfl⟩
  have e5 := Lib.hid r5
  have e6 := Lib.hid r6
  clear hs1 hs2 hs3 hs4
  cases f0 : fitB (x1 * x2) with
  | false =>
    rw [if_neg (by simp)]
    obtain rfl : k5 = 16 := by
      rw [mulS_out h1 h2, outZ_bad (fun e => by rw [fitB_iff.2 e] at f0; cases f0)] at r5
      exact (Prod.mk.inj r5).2.symm
    clear h1 h2 h3 h4 r5 r6 hden f0
    go_enter Tryz.func69, Tryz.ntmps69
    go_wp2_with fail
    refine (rmul_any _ _ _ _ _ _ _ _ _ (((((S1.out.alloc _).alloc _).alloc _).alloc _).alloc _) (((((S2.out.alloc _).alloc _).alloc _).alloc _).alloc _)).mono ?_
    rw [e5.out]
    rintro e w1 ⟨A5, c5, rfl, hs5, hb⟩
    replace S1 : Hid (Sl w1 A1 l1 c1) := Sl.below (((((S1.out.alloc _).alloc _).alloc _).alloc _).alloc _) hb
    replace S2 : Hid (Sl w1 A2 l2 c2) := Sl.below (((((S2.out.alloc _).alloc _).alloc _).alloc _).alloc _) hb
    replace S3 : Hid (Sl w1 A3 l3 c3) := Sl.below (((((S3.out.alloc _).alloc _).alloc _).alloc _).alloc _) hb
    replace S4 : Hid (Sl w1 A4 l4 c4) := Sl.below (((((S4.out.alloc _).alloc _).alloc _).alloc _).alloc _) hb
    have Fo : Hid (Ff w1 (w.heap.size + 1 + 1 + 1 + 1)) := Ff.keep (Ff.fresh (by simp) _ _) (Cf.fresh (by simp) _ _ _ _ _ _ _ _ _) hb
    have Ka : Hid (Cw w1 w.heap.size n1 A1 l1.length c1) := Cw.keep (Cw.keep (Cw.keep (Cw.keep (Cw.keep (Cw.fresh (by simp) _ _ _ _ _) (blw1 _ _)) (blw1 _ _)) (blw1 _ _)) (blw1 _ _)) hb
    have Kb : Hid (Cw w1 (w.heap.size + 1) n2 A2 l2.length c2) := Cw.keep (Cw.keep (Cw.keep (Cw.keep (Cw.fresh (by simp) _ _ _ _ _) (blw1 _ _)) (blw1 _ _)) (blw1 _ _)) hb
    have Kc : Hid (Cw w1 (w.heap.size + 1 + 1) n3 A3 l3.length c3) := Cw.keep (Cw.keep (Cw.keep (Cw.fresh (by simp) _ _ _ _ _) (blw1 _ _)) (blw1 _ _)) hb
    have Kd : Hid (Cw w1 (w.heap.size + 1 + 1 + 1) n4 A4 l4.length c4) := Cw.keep (Cw.keep (Cw.fresh (by simp) _ _ _ _ _) (blw1 _ _)) hb
    have Ko : Hid (Cf w1 (w.heap.size + 1 + 1 + 1 + 1) false none 0 0 false none 0 0) := Cf.keep (Cf.fresh (by simp) _ _ _ _ _ _ _ _ _) hb
    replace B := kB5 B hb
    clear hb
    (try dsimp only at hs5)
    (try dsimp only)
    have S5 : Hid (Sl w1 A5 l5 c5) := hs5
    clear hs5
    obtain ⟨qc0, qc1⟩ := Kc.out
    obtain ⟨qd0, qd1⟩ := Kd.out
    obtain ⟨qo0, qo1, qo2, qo3⟩ := Ko.out
    obtain ⟨fo0, fo1, fo2, fo3⟩ := Fo.out
    have hza := lW Ka
    have hzb := lW Kb
    have hzc := lW Kc
    have hzd := lW Kd
    have hzo := lF Ko
    have hka5 := hza
    have hkb5 := hzb
    have hkc5 := hzc
    have hkd5 := hzd
    have hko5 := hzo
    go_wp2_with fail
    refine (rmul_any _ _ _ _ _ _ _ _ _ (S3.out.alloc _) (S4.out.alloc _)).mono ?_
    rw [e6.out]
    rintro e w2 ⟨A6, c6, rfl, hs6, hb⟩
    clear qc0 qc1 qd0 qd1 qo0 qo1 qo2 qo3 fo0 fo1 fo2 fo3
    replace S1 := kS1 S1 hb
    replace S2 := kS1 S2 hb
    replace S3 := kS1 S3 hb
    replace S4 := kS1 S4 hb
    replace S5 := kS1 S5 hb
    replace Fo := kFf1 Fo Ko hb
    replace Ka := kW1 Ka hb
    replace Kb := kW1 Kb hb
    replace Kc := kW1 Kc hb
    replace Kd := kW1 Kd hb
    replace Ko := kF1 Ko hb
    have K5 : Hid (Cw w2 w1.heap.size n5 A5 l5.length c5) := Cw.keep (Cw.fresh (by simp) _ _ _ _ _) hb
    replace B := kB1 B hb
    clear hb
    (try dsimp only at hs6)
    (try dsimp only)
    have S6 : Hid (Sl w2 A6 l6 c6) := hs6
    clear hs6
    obtain ⟨q50, q51⟩ := K5.out
    obtain ⟨qo0, qo1, qo2, qo3⟩ := Ko.out
    obtain ⟨fo0, fo1, fo2, fo3⟩ := Fo.out
    replace hza := lW Ka
    replace hzb := lW Kb
    replace hzc := lW Kc
    replace hzd := lW Kd
    replace hzo := lF Ko
    have hz5 := lW K5
    have hka6 := hza
    have hkb6 := hzb
    have hkc6 := hzc
    have hkd6 := hzd
    have hko6 := hzo
    have hk56 := hz5
    have hz9 : w.heap.size + 1 + 1 + 1 + 1 < w2.heap.size := by omega
    go_wp2
    exact bodyPost_ret (v := .tuple #[.agg #[.bool false, .slice none 0 0, .bool false, .slice none 0 0], .int .i64 16]) (by simp [results, Tryz.results69, go_sem, qo0, qo1, qo2, qo3, hz9]) rfl (FRes.alloc (fres_store4 (r := zF) 16 (Sl.nil _ none 0) (Sl.nil _ none 0) Ko.out B.out (by omega) _ _ _ _) _)
  | true =>
    obtain ⟨v5, rfl⟩ : VZ n5 l5 (x1 * x2) ∧ k5 = 0 := by
      rw [mulS_z h1 h2 (fitB_iff.1 f0)] at r5
      obtain ⟨e1, e2⟩ := Prod.mk.inj r5
      exact ⟨vz_mk e1.symm (fitB_iff.1 f0), e2.symm⟩
    cases f1 : fitB (y1 * y2) with
    | false =>
      rw [if_neg (by simp)]
      obtain rfl : k6 = 16 := by
        rw [mulS_out h3 h4, outZ_bad (fun e => by rw [fitB_iff.2 e] at f1; cases f1)] at r6
        exact (Prod.mk.inj r6).2.symm
      clear h1 h2 h3 h4 r5 r6 hden f0 f1 v5
      go_enter Tryz.func69, Tryz.ntmps69
      go_wp2_with fail
      refine (rmul_any _ _ _ _ _ _ _ _ _ (((((S1.out.alloc _).alloc _).alloc _).alloc _).alloc _) (((((S2.out.alloc _).alloc _).alloc _).alloc _).alloc _)).mono ?_
      rw [e5.out]
      rintro e w1 ⟨A5, c5, rfl, hs5, hb⟩
      replace S1 : Hid (Sl w1 A1 l1 c1) := Sl.below (((((S1.out.alloc _).alloc _).alloc _).alloc _).alloc _) hb
      replace S2 : Hid (Sl w1 A2 l2 c2) := Sl.below (((((S2.out.alloc _).alloc _).alloc _).alloc _).alloc _) hb
      replace S3 : Hid (Sl w1 A3 l3 c3) := Sl.below (((((S3.out.alloc _).alloc _).alloc _).alloc _).alloc _) hb
      replace S4 : Hid (Sl w1 A4 l4 c4) := Sl.below (((((S4.out.alloc _).alloc _).alloc _).alloc _).alloc _) hb
      have Fo : Hid (Ff w1 (w.heap.size + 1 + 1 + 1 + 1)) := Ff.keep (Ff.fresh (by simp) _ _) (Cf.fresh (by simp) _ _ _ _ _ _ _ _ _) hb
      have Ka : Hid (Cw w1 w.heap.size n1 A1 l1.length c1) := Cw.keep (Cw.keep (Cw.keep (Cw.keep (Cw.keep (Cw.fresh (by simp) _ _ _ _ _) (blw1 _ _)) (blw1 _ _)) (blw1 _ _)) (blw1 _ _)) hb
      have Kb : Hid (Cw w1 (w.heap.size + 1) n2 A2 l2.length c2) := Cw.keep (Cw.keep (Cw.keep (Cw.keep (Cw.fresh (by simp) _ _ _ _ _) (blw1 _ _)) (blw1 _ _)) (blw1 _ _)) hb
      have Kc : Hid (Cw w1 (w.heap.size + 1 + 1) n3 A3 l3.length c3) := Cw.keep (Cw.keep (Cw.keep (Cw.fresh (by simp) _ _ _ _ _) (blw1 _ _)) (blw1 _ _)) hb
      have Kd : Hid (Cw w1 (w.heap.size + 1 + 1 + 1) n4 A4 l4.length c4) := Cw.keep (Cw.keep (Cw.fresh (by simp) _ _ _ _ _) (blw1 _ _)) hb
      have Ko : Hid (Cf w1 (w.heap.size + 1 + 1 + 1 + 1) false none 0 0 false none 0 0) := Cf.keep (Cf.fresh (by simp) _ _ _ _ _ _ _ _ _) hb
      replace B := kB5 B hb
      clear hb
      (try dsimp only at hs5)
      (try dsimp only)
      have S5 : Hid (Sl w1 A5 l5 c5) := hs5
      clear hs5
      obtain ⟨qc0, qc1⟩ := Kc.out
      obtain ⟨qd0, qd1⟩ := Kd.out
      obtain ⟨qo0, qo1, qo2, qo3⟩ := Ko.out
      obtain ⟨fo0, fo1, fo2, fo3⟩ := Fo.out
      have hza := lW Ka
      have hzb := lW Kb
      have hzc := lW Kc
      have hzd := lW Kd
      have hzo := lF Ko
      have hka5 := hza
      have hkb5 := hzb
      have hkc5 := hzc
      have hkd5 := hzd
      have hko5 := hzo
      go_wp2_with fail
      refine (rmul_any _ _ _ _ _ _ _ _ _ (S3.out.alloc _) (S4.out.alloc _)).mono ?_
      rw [e6.out]
      rintro e w2 ⟨A6, c6, rfl, hs6, hb⟩
      clear qc0 qc1 qd0 qd1 qo0 qo1 qo2 qo3 fo0 fo1 fo2 fo3
      replace S1 := kS1 S1 hb
      replace S2 := kS1 S2 hb
      replace S3 := kS1 S3 hb
      replace S4 := kS1 S4 hb
      replace S5 := kS1 S5 hb
      replace Fo := kFf1 Fo Ko hb
      replace Ka := kW1 Ka hb
      replace Kb := kW1 Kb hb
      replace Kc := kW1 Kc hb
      replace Kd := kW1 Kd hb
      replace Ko := kF1 Ko hb
      have K5 : Hid (Cw w2 w1.heap.size n5 A5 l5.length c5) := Cw.keep (Cw.fresh (by simp) _ _ _ _ _) hb
      replace B := kB1 B hb
      clear hb
      (try dsimp only at hs6)
      (try dsimp only)
      have S6 : Hid (Sl w2 A6 l6 c6) := hs6
      clear hs6
      obtain ⟨q50, q51⟩ := K5.out
      obtain ⟨qo0, qo1, qo2, qo3⟩ := Ko.out
      obtain ⟨fo0, fo1, fo2, fo3⟩ := Fo.out
      replace hza := lW Ka
      replace hzb := lW Kb
      replace hzc := lW Kc
      replace hzd := lW Kd
      replace hzo := lF Ko
      have hz5 := lW K5
      have hka6 := hza
      have hkb6 := hzb
      have hkc6 := hzc
      have hkd6 := hzd
      have hko6 := hzo
      have hk56 := hz5
      have hz9 : w.heap.size + 1 + 1 + 1 + 1 < w2.heap.size := by omega
      go_wp2
      exact bodyPost_ret (v := .tuple #[.agg #[.bool false, .slice none 0 0, .bool false, .slice none 0 0], .int .i64 16]) (by simp [results, Tryz.results69, go_sem, qo0, qo1, qo2, qo3, hz9]) rfl (FRes.alloc (fres_store4 (r := zF) 16 (Sl.nil _ none 0) (Sl.nil _ none 0) Ko.out B.out (by omega) _ _ _ _) _)
    | true =>
      obtain ⟨v6, rfl⟩ : VZ n6 l6 (y1 * y2) ∧ k6 = 0 := by
        rw [mulS_z h3 h4 (fitB_iff.1 f1)] at r6
        obtain ⟨e1, e2⟩ := Prod.mk.inj r6
        exact ⟨vz_mk e1.symm (fitB_iff.1 f1), e2.symm⟩
      rw [if_pos (by simp)]
      obtain ⟨⟨⟨na, la⟩, ⟨nb, lb⟩⟩, hr⟩ : ∃ r, r = redZ (x1 * x2) (y1 * y2) := ⟨_, rfl⟩
      have HR : Hid (∀ W A A' c c', Sl W A l5 c → Sl W A' l6 c' → Calls Tryz.prog 31 #[.agg #[.bool n5, .slice A l5.length c], .agg #[.bool n6, .slice A' l6.length c']] W (FRes1 ((na, la), (nb, lb)) W)) := fun W A A' c c' a b => by rw [hr]; exact rreduced_any n5 n6 A A' l5 l6 c c' _ _ v5 v6 hden W a b
      rw [← hr]
      clear hr
      clear h1 h2 h3 h4 r5 r6 hden f0 f1 v5 v6
      go_enter Tryz.func69, Tryz.ntmps69
      go_wp2_with fail
      refine (rmul_any _ _ _ _ _ _ _ _ _ (((((S1.out.alloc _).alloc _).alloc _).alloc _).alloc _) (((((S2.out.alloc _).alloc _).alloc _).alloc _).alloc _)).mono ?_
      rw [e5.out]
      rintro e w1 ⟨A5, c5, rfl, hs5, hb⟩
      replace S1 : Hid (Sl w1 A1 l1 c1) := Sl.below (((((S1.out.alloc _).alloc _).alloc _).alloc _).alloc _) hb
      replace S2 : Hid (Sl w1 A2 l2 c2) := Sl.below (((((S2.out.alloc _).alloc _).alloc _).alloc _).alloc _) hb
      replace S3 : Hid (Sl w1 A3 l3 c3) := Sl.below (((((S3.out.alloc _).alloc _).alloc _).alloc _).alloc _) hb
      replace S4 : Hid (Sl w1 A4 l4 c4) := Sl.below (((((S4.out.alloc _).alloc _).alloc _).alloc _).alloc _) hb
      have Fo : Hid (Ff w1 (w.heap.size + 1 + 1 + 1 + 1)) := Ff.keep (Ff.fresh (by simp) _ _) (Cf.fresh (by simp) _ _ _ _ _ _ _ _ _) hb
      have Ka : Hid (Cw w1 w.heap.size n1 A1 l1.length c1) := Cw.keep (Cw.keep (Cw.keep (Cw.keep (Cw.keep (Cw.fresh (by simp) _ _ _ _ _) (blw1 _ _)) (blw1 _ _)) (blw1 _ _)) (blw1 _ _)) hb
      have Kb : Hid (Cw w1 (w.heap.size + 1) n2 A2 l2.length c2) := Cw.keep (Cw.keep (Cw.keep (Cw.keep (Cw.fresh (by simp) _ _ _ _ _) (blw1 _ _)) (blw1 _ _)) (blw1 _ _)) hb
      have Kc : Hid (Cw w1 (w.heap.size + 1 + 1) n3 A3 l3.length c3) := Cw.keep (Cw.keep (Cw.keep (Cw.fresh (by simp) _ _ _ _ _) (blw1 _ _)) (blw1 _ _)) hb
      have Kd : Hid (Cw w1 (w.heap.size + 1 + 1 + 1) n4 A4 l4.length c4) := Cw.keep (Cw.keep (Cw.fresh (by simp) _ _ _ _ _) (blw1 _ _)) hb
      have Ko : Hid (Cf w1 (w.heap.size + 1 + 1 + 1 + 1) false none 0 0 false none 0 0) := Cf.keep (Cf.fresh (by simp) _ _ _ _ _ _ _ _ _) hb
      replace B := kB5 B hb
      clear hb
      (try dsimp only at hs5)
      (try dsimp only)
      have S5 : Hid (Sl w1 A5 l5 c5) := hs5
      clear hs5
      obtain ⟨qc0, qc1⟩ := Kc.out
      obtain ⟨qd0, qd1⟩ := Kd.out
      obtain ⟨qo0, qo1, qo2, qo3⟩ := Ko.out
      obtain ⟨fo0, fo1, fo2, fo3⟩ := Fo.out
      have hza := lW Ka
      have hzb := lW Kb
      have hzc := lW Kc
      have hzd := lW Kd
      have hzo := lF Ko
      have hka5 := hza
      have hkb5 := hzb
      have hkc5 := hzc
      have hkd5 := hzd
      have hko5 := hzo
      go_wp2_with fail
      refine (rmul_any _ _ _ _ _ _ _ _ _ (S3.out.alloc _) (S4.out.alloc _)).mono ?_
      rw [e6.out]
      rintro e w2 ⟨A6, c6, rfl, hs6, hb⟩
      clear qc0 qc1 qd0 qd1 qo0 qo1 qo2 qo3 fo0 fo1 fo2 fo3
      replace S1 := kS1 S1 hb
      replace S2 := kS1 S2 hb
      replace S3 := kS1 S3 hb
      replace S4 := kS1 S4 hb
      replace S5 := kS1 S5 hb
      replace Fo := kFf1 Fo Ko hb
      replace Ka := kW1 Ka hb
      replace Kb := kW1 Kb hb
      replace Kc := kW1 Kc hb
      replace Kd := kW1 Kd hb
      replace Ko := kF1 Ko hb
      have K5 : Hid (Cw w2 w1.heap.size n5 A5 l5.length c5) := Cw.keep (Cw.fresh (by simp) _ _ _ _ _) hb
      replace B := kB1 B hb
      clear hb
      (try dsimp only at hs6)
      (try dsimp only)
      have S6 : Hid (Sl w2 A6 l6 c6) := hs6
      clear hs6
      obtain ⟨q50, q51⟩ := K5.out
      obtain ⟨qo0, qo1, qo2, qo3⟩ := Ko.out
      obtain ⟨fo0, fo1, fo2, fo3⟩ := Fo.out
      replace hza := lW Ka
      replace hzb := lW Kb
      replace hzc := lW Kc
      replace hzd := lW Kd
      replace hzo := lF Ko
      have hz5 := lW K5
      have hka6 := hza
      have hkb6 := hzb
      have hkc6 := hzc
      have hkd6 := hzd
      have hko6 := hzo
      have hk56 := hz5
      go_wp2_with fail
      refine (HR.out _ _ _ _ _ (S5.out.alloc _) (S6.out.alloc _)).mono ?_
      rintro e w3 ⟨A9, c9, B9, d9, rfl, hsx, hsy, hb⟩
      clear q50 q51 qo0 qo1 qo2 qo3 fo0 fo1 fo2 fo3
      replace S1 := kS1 S1 hb
      replace S2 := kS1 S2 hb
      replace S3 := kS1 S3 hb
      replace S4 := kS1 S4 hb
      replace S5 := kS1 S5 hb
      replace S6 := kS1 S6 hb
      replace Fo := kFf1 Fo Ko hb
      replace Ka := kW1 Ka hb
      replace Kb := kW1 Kb hb
      replace Kc := kW1 Kc hb
      replace Kd := kW1 Kd hb
      replace Ko := kF1 Ko hb
      replace K5 := kW1 K5 hb
      have K6 : Hid (Cw w3 w2.heap.size n6 A6 l6.length c6) := Cw.keep (Cw.fresh (by simp) _ _ _ _ _) hb
      replace B := kB1 B hb
      clear hb
      (try dsimp only at hsx hsy)
      (try dsimp only)
      have Sx : Hid (Sl w3 A9 la c9) := hsx
      clear hsx
      have Sy : Hid (Sl w3 B9 lb d9) := hsy
      clear hsy
      obtain ⟨qo0, qo1, qo2, qo3⟩ := Ko.out
      obtain ⟨fo0, fo1, fo2, fo3⟩ := Fo.out
      replace hza := lW Ka
      replace hzb := lW Kb
      replace hzc := lW Kc
      replace hzd := lW Kd
      replace hzo := lF Ko
      replace hz5 := lW K5
      have hz6 := lW K6
      go_wp2_with fail
      exact bodyPost_ret (v := .tuple #[.agg #[.bool na, .slice A9 la.length c9, .bool nb, .slice B9 lb.length d9], .int .i64 0]) (by simp [results, Tryz.results69, go_sem, qo0, qo1, qo2, qo3]) rfl (fres_store4 (r := ((na, la), (nb, lb))) 0 Sx.out Sy.out Ko.out B.out (by omega) _ _ _ _)

end Go.Proofs.YtmelbahbjdogdaaGreatDoor
/- Walks: the reference's both, added, product, Add, Sub, Mul, Div. -/
namespace Go.Proofs.YtmelbahbjdogdaaGreatDoor
open Go.RowKit
attribute [local go_sem ↓] Go.wp_at_zero Go.wp_at_succ
end Go.Proofs.YtmelbahbjdogdaaGreatDoor
/- Walks: the reference's both, added, product, Add, Sub, Mul, Div. -/
namespace Go.Proofs.YtmelbahbjdogdaaGreatDoor
open Go.RowKit
attribute [local go_sem ↓] Go.wp_at_zero Go.wp_at_succ
end Go.Proofs.YtmelbahbjdogdaaGreatDoor

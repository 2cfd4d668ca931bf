/- Walks: the reference's both, added, product, Add, Sub, Mul, Div. -/
import Derived.Test.YthlfidbhldbedaaF3
import Derived.Test.YthlfidbhldbedaaFMath
import Derived.Test.YthlfidbhldbedaaF6
import Derived.Test.YthlfidbhldbedaaW20
namespace Go.Proofs.Ythlfidbhldbedaa
open Go.RowKit
attribute [local go_sem ↓] Go.wp_at_zero Go.wp_at_succ
def bothK (n1 : Bool) (l1 : List Nat) (n2 : Bool) (l2 : List Nat) (n3 : Bool) (l3 : List Nat) (n4 : Bool) (l4 : List Nat) : Int := if badF n1 l1 n2 l2 || badF n3 l3 n4 l4 then 8 else 0

set_option maxRecDepth 100000 in
set_option maxHeartbeats 2000000 in
theorem rboth_any (n1 n2 n3 n4 : Bool) (A1 A2 A3 A4 : Option Addr) (l1 l2 l3 l4 : List Nat) (c1 c2 c3 c4 : Nat) (w : World) (hs1 : Sl w A1 l1 c1) (hs2 : Sl w A2 l2 c2) (hs3 : Sl w A3 l3 c3) (hs4 : Sl w A4 l4 c4) :
    Calls Try.prog 47 #[.agg #[.bool n1, .slice A1 l1.length c1, .bool n2, .slice A2 l2.length c2], .agg #[.bool n3, .slice A3 l3.length c3, .bool n4, .slice A4 l4.length c4]] w fun e w' => e = .returned (.int .i64 (bothK n1 l1 n2 l2 n3 l3 n4 l4)) ∧ Below w.heap.size w w' := by
  have S1 := Lib.hid hs1
  have S2 := Lib.hid hs2
  have S3 := Lib.hid hs3
  have S4 := Lib.hid hs4
  have B : Hid (Below w.heap.size w w) := Below.refl _ _
  cases hb1 : badF n1 l1 n2 l2 with
  | true =>
    have hr : bothK n1 l1 n2 l2 n3 l3 n4 l4 = 8 := by unfold bothK; rw [hb1]; rfl
    have e1 : Hid (chkF n1 l1 n2 l2 = 8) := by unfold chkF; rw [hb1]; rfl
    rw [hr]
    clear hs1 hs2 hs3 hs4 hr hb1
    go_enter Try.func47, Try.ntmps47
    go_wp2_with fail
    refine (rfcheck_any n1 n2 A1 A2 l1 l2 c1 c2 _ ((S1.out.alloc _).alloc _) ((S2.out.alloc _).alloc _)).mono ?_
    rw [e1.out]
    rintro e w1 ⟨rfl, hb⟩
    have Ka' : Hid (Cf w1 w.heap.size n1 A1 l1.length c1 n2 A2 l2.length c2) := Cf.keep (Cf.keep (Cf.fresh (by simp) _ _ _ _ _ _ _ _ _) (blw1 _ _)) hb
    have Kb' : Hid (Cf w1 (w.heap.size + 1) n3 A3 l3.length c3 n4 A4 l4.length c4) := Cf.keep (Cf.fresh (by simp) _ _ _ _ _ _ _ _ _) hb
    have S1' : Hid (Sl w1 A1 l1 c1) := Sl.below ((S1.out.alloc _).alloc _) hb
    have S2' : Hid (Sl w1 A2 l2 c2) := Sl.below ((S2.out.alloc _).alloc _) hb
    have S3' : Hid (Sl w1 A3 l3 c3) := Sl.below ((S3.out.alloc _).alloc _) hb
    have S4' : Hid (Sl w1 A4 l4 c4) := Sl.below ((S4.out.alloc _).alloc _) hb
    have B' : Hid (Below w.heap.size w w1) := below_mono (below_mono (below_mono B.out (blw1 _ _)) (blw1 _ _)) hb
    clear hb S1 S2 S3 S4 B
    have Ka := Ka'
    have Kb := Kb'
    have S1 := S1'
    have S2 := S2'
    have S3 := S3'
    have S4 := S4'
    have B := B'
    clear Ka' Kb' S1' S2' S3' S4' B'
    obtain ⟨qa0, qa1, qa2, qa3⟩ := Ka.out
    obtain ⟨qb0, qb1, qb2, qb3⟩ := Kb.out
    have hza : w.heap.size < w1.heap.size := lt_of_cell (a := ⟨w.heap.size, 0, none⟩) Ka.out.1
    have hzb : w.heap.size + 1 < w1.heap.size := lt_of_cell (a := ⟨w.heap.size + 1, 0, none⟩) Kb.out.1
    go_wp2_with fail
    refine (rfcheck_any n1 n2 A1 A2 l1 l2 c1 c2 _ S1.out S2.out).mono ?_
    rw [e1.out]
    rintro e w2 ⟨rfl, hb⟩
    clear qa0 qa1 qa2 qa3 qb0 qb1 qb2 qb3
    have Ka' : Hid (Cf w2 w.heap.size n1 A1 l1.length c1 n2 A2 l2.length c2) := Cf.keep Ka.out hb
    have Kb' : Hid (Cf w2 (w.heap.size + 1) n3 A3 l3.length c3 n4 A4 l4.length c4) := Cf.keep Kb.out hb
    have S1' : Hid (Sl w2 A1 l1 c1) := Sl.below S1.out hb
    have S2' : Hid (Sl w2 A2 l2 c2) := Sl.below S2.out hb
    have S3' : Hid (Sl w2 A3 l3 c3) := Sl.below S3.out hb
    have S4' : Hid (Sl w2 A4 l4 c4) := Sl.below S4.out hb
    have B' : Hid (Below w.heap.size w w2) := below_mono B.out hb
    clear hb Ka Kb S1 S2 S3 S4 B
    have Ka := Ka'
    have Kb := Kb'
    have S1 := S1'
    have S2 := S2'
    have S3 := S3'
    have S4 := S4'
    have B := B'
    clear Ka' Kb' S1' S2' S3' S4' B'
    obtain ⟨qa0, qa1, qa2, qa3⟩ := Ka.out
    obtain ⟨qb0, qb1, qb2, qb3⟩ := Kb.out
    replace hza : w.heap.size < w2.heap.size := lt_of_cell (a := ⟨w.heap.size, 0, none⟩) Ka.out.1
    replace hzb : w.heap.size + 1 < w2.heap.size := lt_of_cell (a := ⟨w.heap.size + 1, 0, none⟩) Kb.out.1
    go_wp2
    go_ret
    exact ⟨rfl, B.out⟩
  | false =>
    have hr : bothK n1 l1 n2 l2 n3 l3 n4 l4 = chkF n3 l3 n4 l4 := by unfold bothK chkF; rw [hb1]; rfl
    have e1 : Hid (chkF n1 l1 n2 l2 = 0) := by unfold chkF; rw [hb1]; rfl
    obtain ⟨k, hk⟩ : ∃ k, k = chkF n3 l3 n4 l4 := ⟨_, rfl⟩
    have e2 : Hid (chkF n3 l3 n4 l4 = k) := hk.symm
    rw [hr, ← hk]
    clear hs1 hs2 hs3 hs4 hr hb1 hk
    go_enter Try.func47, Try.ntmps47
    go_wp2_with fail
    refine (rfcheck_any n1 n2 A1 A2 l1 l2 c1 c2 _ ((S1.out.alloc _).alloc _) ((S2.out.alloc _).alloc _)).mono ?_
    rw [e1.out]
    rintro e w1 ⟨rfl, hb⟩
    have Ka' : Hid (Cf w1 w.heap.size n1 A1 l1.length c1 n2 A2 l2.length c2) := Cf.keep (Cf.keep (Cf.fresh (by simp) _ _ _ _ _ _ _ _ _) (blw1 _ _)) hb
    have Kb' : Hid (Cf w1 (w.heap.size + 1) n3 A3 l3.length c3 n4 A4 l4.length c4) := Cf.keep (Cf.fresh (by simp) _ _ _ _ _ _ _ _ _) hb
    have S1' : Hid (Sl w1 A1 l1 c1) := Sl.below ((S1.out.alloc _).alloc _) hb
    have S2' : Hid (Sl w1 A2 l2 c2) := Sl.below ((S2.out.alloc _).alloc _) hb
    have S3' : Hid (Sl w1 A3 l3 c3) := Sl.below ((S3.out.alloc _).alloc _) hb
    have S4' : Hid (Sl w1 A4 l4 c4) := Sl.below ((S4.out.alloc _).alloc _) hb
    have B' : Hid (Below w.heap.size w w1) := below_mono (below_mono (below_mono B.out (blw1 _ _)) (blw1 _ _)) hb
    clear hb S1 S2 S3 S4 B
    have Ka := Ka'
    have Kb := Kb'
    have S1 := S1'
    have S2 := S2'
    have S3 := S3'
    have S4 := S4'
    have B := B'
    clear Ka' Kb' S1' S2' S3' S4' B'
    obtain ⟨qa0, qa1, qa2, qa3⟩ := Ka.out
    obtain ⟨qb0, qb1, qb2, qb3⟩ := Kb.out
    have hza : w.heap.size < w1.heap.size := lt_of_cell (a := ⟨w.heap.size, 0, none⟩) Ka.out.1
    have hzb : w.heap.size + 1 < w1.heap.size := lt_of_cell (a := ⟨w.heap.size + 1, 0, none⟩) Kb.out.1
    go_wp2_with fail
    refine (rfcheck_any n3 n4 A3 A4 l3 l4 c3 c4 _ S3.out S4.out).mono ?_
    rw [e2.out]
    rintro e w2 ⟨rfl, hb⟩
    clear qa0 qa1 qa2 qa3 qb0 qb1 qb2 qb3
    have Ka' : Hid (Cf w2 w.heap.size n1 A1 l1.length c1 n2 A2 l2.length c2) := Cf.keep Ka.out hb
    have Kb' : Hid (Cf w2 (w.heap.size + 1) n3 A3 l3.length c3 n4 A4 l4.length c4) := Cf.keep Kb.out hb
    have S1' : Hid (Sl w2 A1 l1 c1) := Sl.below S1.out hb
    have S2' : Hid (Sl w2 A2 l2 c2) := Sl.below S2.out hb
    have S3' : Hid (Sl w2 A3 l3 c3) := Sl.below S3.out hb
    have S4' : Hid (Sl w2 A4 l4 c4) := Sl.below S4.out hb
    have B' : Hid (Below w.heap.size w w2) := below_mono B.out hb
    clear hb Ka Kb S1 S2 S3 S4 B
    have Ka := Ka'
    have Kb := Kb'
    have S1 := S1'
    have S2 := S2'
    have S3 := S3'
    have S4 := S4'
    have B := B'
    clear Ka' Kb' S1' S2' S3' S4' B'
    obtain ⟨qa0, qa1, qa2, qa3⟩ := Ka.out
    obtain ⟨qb0, qb1, qb2, qb3⟩ := Kb.out
    replace hza : w.heap.size < w2.heap.size := lt_of_cell (a := ⟨w.heap.size, 0, none⟩) Ka.out.1
    replace hzb : w.heap.size + 1 < w2.heap.size := lt_of_cell (a := ⟨w.heap.size + 1, 0, none⟩) Kb.out.1
    go_wp2
    go_ret
    exact ⟨rfl, B.out⟩

theorem FRes.alloc {r : ((Bool × List Nat) × (Bool × List Nat)) × Int} {w w' : World} {e : Ending} (h : FRes r w e w') (o : Obj) : FRes r w e (w'.alloc o) := by
  obtain ⟨A, c, A', c', rfl, h1, h2, hb⟩ := h
  exact ⟨A, c, A', c', rfl, h1.alloc o, h2.alloc o, below_mono hb (blw1 _ _)⟩

set_option maxRecDepth 100000 in
set_option maxHeartbeats 2000000 in
theorem rproduct_any (n1 n2 n3 n4 : Bool) (A1 A2 A3 A4 : Option Addr) (l1 l2 l3 l4 : List Nat) (c1 c2 c3 c4 : Nat) (x1 x2 y1 y2 : Int) (h1 : VZ n1 l1 x1) (h2 : VZ n2 l2 x2) (h3 : VZ n3 l3 y1) (h4 : VZ n4 l4 y2) (hden : y1 * y2 ≠ 0) (w : World) (hs1 : Sl w A1 l1 c1) (hs2 : Sl w A2 l2 c2) (hs3 : Sl w A3 l3 c3) (hs4 : Sl w A4 l4 c4) :
    Calls Try.prog 52 #[.agg #[.bool n1, .slice A1 l1.length c1], .agg #[.bool n2, .slice A2 l2.length c2], .agg #[.bool n3, .slice A3 l3.length c3], .agg #[.bool n4, .slice A4 l4.length c4]] w (FRes (outF (fitB (x1 * x2) && fitB (y1 * y2)) (x1 * x2) (y1 * y2)) w) := by
  have S1 := Lib.hid hs1
  have S2 := Lib.hid hs2
  have S3 := Lib.hid hs3
  have S4 := Lib.hid hs4
  have B : Hid (Below w.heap.size w w) := Below.refl _ _
  unfold outF
  obtain ⟨⟨⟨n5, l5⟩, k5⟩, r5⟩ : ∃ r, mulS n1 l1 n2 l2 = r := ⟨_, rfl⟩
  obtain ⟨⟨⟨n6, l6⟩, k6⟩, r6⟩ : ∃ r, mulS n3 l3 n4 l4 = r := ⟨_, rfl⟩
  have e5 := Lib.hid r5
  have e6 := Lib.hid r6
  clear hs1 hs2 hs3 hs4
  cases f0 : fitB (x1 * x2) with
  | false =>
    rw [if_neg (by simp)]
    obtain rfl : k5 = 16 := by
      rw [mulS_out h1 h2, outZ_bad (fun e => by rw [fitB_iff.2 e] at f0; cases f0)] at r5
      exact (Prod.mk.inj r5).2.symm
    clear h1 h2 h3 h4 r5 r6 hden f0
    go_enter Try.func52, Try.ntmps52
    go_wp2_with fail
    refine (rmul_any _ _ _ _ _ _ _ _ _ (((((S1.out.alloc _).alloc _).alloc _).alloc _).alloc _) (((((S2.out.alloc _).alloc _).alloc _).alloc _).alloc _)).mono ?_
    rw [e5.out]
    rintro e w1 ⟨A5, c5, rfl, hs5, hb⟩
    have Ka' : Hid (Cw w1 w.heap.size n1 A1 l1.length c1) := Cw.keep (Cw.keep (Cw.keep (Cw.keep (Cw.keep (Cw.fresh (by simp) _ _ _ _ _) (blw1 _ _)) (blw1 _ _)) (blw1 _ _)) (blw1 _ _)) hb
    have Kb' : Hid (Cw w1 (w.heap.size + 1) n2 A2 l2.length c2) := Cw.keep (Cw.keep (Cw.keep (Cw.keep (Cw.fresh (by simp) _ _ _ _ _) (blw1 _ _)) (blw1 _ _)) (blw1 _ _)) hb
    have Kc' : Hid (Cw w1 (w.heap.size + 1 + 1) n3 A3 l3.length c3) := Cw.keep (Cw.keep (Cw.keep (Cw.fresh (by simp) _ _ _ _ _) (blw1 _ _)) (blw1 _ _)) hb
    have Kd' : Hid (Cw w1 (w.heap.size + 1 + 1 + 1) n4 A4 l4.length c4) := Cw.keep (Cw.keep (Cw.fresh (by simp) _ _ _ _ _) (blw1 _ _)) hb
    have Fo' : Hid (Ff w1 (w.heap.size + 1 + 1 + 1 + 1)) := Ff.keep (Ff.fresh (by simp) _ _) (Cf.fresh (by simp) _ _ _ _ _ _ _ _ _) hb
    have Ko' : Hid (Cf w1 (w.heap.size + 1 + 1 + 1 + 1) false none 0 0 false none 0 0) := Cf.keep (Cf.fresh (by simp) _ _ _ _ _ _ _ _ _) hb
    have S1' : Hid (Sl w1 A1 l1 c1) := Sl.below (((((S1.out.alloc _).alloc _).alloc _).alloc _).alloc _) hb
    have S2' : Hid (Sl w1 A2 l2 c2) := Sl.below (((((S2.out.alloc _).alloc _).alloc _).alloc _).alloc _) hb
    have S3' : Hid (Sl w1 A3 l3 c3) := Sl.below (((((S3.out.alloc _).alloc _).alloc _).alloc _).alloc _) hb
    have S4' : Hid (Sl w1 A4 l4 c4) := Sl.below (((((S4.out.alloc _).alloc _).alloc _).alloc _).alloc _) hb
    have B' : Hid (Below w.heap.size w w1) := below_mono (below_mono (below_mono (below_mono (below_mono (below_mono B.out (blw1 _ _)) (blw1 _ _)) (blw1 _ _)) (blw1 _ _)) (blw1 _ _)) hb
    clear hb S1 S2 S3 S4 B
    have Ka := Ka'
    have Kb := Kb'
    have Kc := Kc'
    have Kd := Kd'
    have Fo := Fo'
    have Ko := Ko'
    have S1 := S1'
    have S2 := S2'
    have S3 := S3'
    have S4 := S4'
    have B := B'
    clear Ka' Kb' Kc' Kd' Fo' Ko' S1' S2' S3' S4' B'
    (try dsimp only at hs5)
    (try dsimp only)
    have S5 : Hid (Sl w1 A5 l5 c5) := hs5
    clear hs5
    obtain ⟨qc0, qc1⟩ := Kc.out
    obtain ⟨qd0, qd1⟩ := Kd.out
    obtain ⟨qo0, qo1, qo2, qo3⟩ := Ko.out
    obtain ⟨fo0, fo1, fo2, fo3⟩ := Fo.out
    have hza : w.heap.size < w1.heap.size := lt_of_cell (a := ⟨w.heap.size, 0, none⟩) Ka.out.1
    have hzb : w.heap.size + 1 < w1.heap.size := lt_of_cell (a := ⟨w.heap.size + 1, 0, none⟩) Kb.out.1
    have hzc : w.heap.size + 1 + 1 < w1.heap.size := lt_of_cell (a := ⟨w.heap.size + 1 + 1, 0, none⟩) Kc.out.1
    have hzd : w.heap.size + 1 + 1 + 1 < w1.heap.size := lt_of_cell (a := ⟨w.heap.size + 1 + 1 + 1, 0, none⟩) Kd.out.1
    have hzo : w.heap.size + 1 + 1 + 1 + 1 < w1.heap.size := lt_of_cell (a := ⟨w.heap.size + 1 + 1 + 1 + 1, 0, none⟩) Ko.out.1
    have hka5 := hza
    have hkb5 := hzb
    have hkc5 := hzc
    have hkd5 := hzd
    have hko5 := hzo
    go_wp2_with fail
    refine (rmul_any _ _ _ _ _ _ _ _ _ (S3.out.alloc _) (S4.out.alloc _)).mono ?_
    rw [e6.out]
    rintro e w2 ⟨A6, c6, rfl, hs6, hb⟩
    clear qc0 qc1 qd0 qd1 qo0 qo1 qo2 qo3 fo0 fo1 fo2 fo3
    have Ka' : Hid (Cw w2 w.heap.size n1 A1 l1.length c1) := Cw.keep (Cw.keep Ka.out (blw1 _ _)) hb
    have Kb' : Hid (Cw w2 (w.heap.size + 1) n2 A2 l2.length c2) := Cw.keep (Cw.keep Kb.out (blw1 _ _)) hb
    have Kc' : Hid (Cw w2 (w.heap.size + 1 + 1) n3 A3 l3.length c3) := Cw.keep (Cw.keep Kc.out (blw1 _ _)) hb
    have Kd' : Hid (Cw w2 (w.heap.size + 1 + 1 + 1) n4 A4 l4.length c4) := Cw.keep (Cw.keep Kd.out (blw1 _ _)) hb
    have Fo' : Hid (Ff w2 (w.heap.size + 1 + 1 + 1 + 1)) := Ff.keep (Ff.keep Fo.out Ko.out (blw1 _ _)) (Cf.keep Ko.out (blw1 _ _)) hb
    have Ko' : Hid (Cf w2 (w.heap.size + 1 + 1 + 1 + 1) false none 0 0 false none 0 0) := Cf.keep (Cf.keep Ko.out (blw1 _ _)) hb
    have K5' : Hid (Cw w2 w1.heap.size n5 A5 l5.length c5) := Cw.keep (Cw.fresh (by simp) _ _ _ _ _) hb
    have S1' : Hid (Sl w2 A1 l1 c1) := Sl.below (S1.out.alloc _) hb
    have S2' : Hid (Sl w2 A2 l2 c2) := Sl.below (S2.out.alloc _) hb
    have S3' : Hid (Sl w2 A3 l3 c3) := Sl.below (S3.out.alloc _) hb
    have S4' : Hid (Sl w2 A4 l4 c4) := Sl.below (S4.out.alloc _) hb
    have S5' : Hid (Sl w2 A5 l5 c5) := Sl.below (S5.out.alloc _) hb
    have B' : Hid (Below w.heap.size w w2) := below_mono (below_mono B.out (blw1 _ _)) hb
    clear hb Ka Kb Kc Kd Fo Ko S1 S2 S3 S4 S5 B
    have Ka := Ka'
    have Kb := Kb'
    have Kc := Kc'
    have Kd := Kd'
    have Fo := Fo'
    have Ko := Ko'
    have K5 := K5'
    have S1 := S1'
    have S2 := S2'
    have S3 := S3'
    have S4 := S4'
    have S5 := S5'
    have B := B'
    clear Ka' Kb' Kc' Kd' Fo' Ko' K5' S1' S2' S3' S4' S5' B'
    (try dsimp only at hs6)
    (try dsimp only)
    have S6 : Hid (Sl w2 A6 l6 c6) := hs6
    clear hs6
    obtain ⟨q50, q51⟩ := K5.out
    obtain ⟨qo0, qo1, qo2, qo3⟩ := Ko.out
    obtain ⟨fo0, fo1, fo2, fo3⟩ := Fo.out
    replace hza : w.heap.size < w2.heap.size := lt_of_cell (a := ⟨w.heap.size, 0, none⟩) Ka.out.1
    replace hzb : w.heap.size + 1 < w2.heap.size := lt_of_cell (a := ⟨w.heap.size + 1, 0, none⟩) Kb.out.1
    replace hzc : w.heap.size + 1 + 1 < w2.heap.size := lt_of_cell (a := ⟨w.heap.size + 1 + 1, 0, none⟩) Kc.out.1
    replace hzd : w.heap.size + 1 + 1 + 1 < w2.heap.size := lt_of_cell (a := ⟨w.heap.size + 1 + 1 + 1, 0, none⟩) Kd.out.1
    replace hzo : w.heap.size + 1 + 1 + 1 + 1 < w2.heap.size := lt_of_cell (a := ⟨w.heap.size + 1 + 1 + 1 + 1, 0, none⟩) Ko.out.1
    have hz5 : w1.heap.size < w2.heap.size := lt_of_cell (a := ⟨w1.heap.size, 0, none⟩) K5.out.1
    have hka6 := hza
    have hkb6 := hzb
    have hkc6 := hzc
    have hkd6 := hzd
    have hko6 := hzo
    have hk56 := hz5
    have hz9 : w.heap.size + 1 + 1 + 1 + 1 < w2.heap.size := by omega
    go_wp2
    exact bodyPost_ret (v := .tuple #[.agg #[.bool false, .slice none 0 0, .bool false, .slice none 0 0], .int .i64 16]) (by simp [results, Try.results52, go_sem, qo0, qo1, qo2, qo3, hz9]) rfl (FRes.alloc (fres_store4 (r := zF) 16 (Sl.nil _ none 0) (Sl.nil _ none 0) Ko.out B.out (by omega) _ _ _ _) _)
  | true =>
    obtain ⟨v5, rfl⟩ : VZ n5 l5 (x1 * x2) ∧ k5 = 0 := by
      rw [mulS_z h1 h2 (fitB_iff.1 f0)] at r5
      obtain ⟨e1, e2⟩ := Prod.mk.inj r5
      exact ⟨vz_mk e1.symm (fitB_iff.1 f0), e2.symm⟩
    cases f1 : fitB (y1 * y2) with
    | false =>
      rw [if_neg (by simp)]
      obtain rfl : k6 = 16 := by
        rw [mulS_out h3 h4, outZ_bad (fun e => by rw [fitB_iff.2 e] at f1; cases f1)] at r6
        exact (Prod.mk.inj r6).2.symm
      clear h1 h2 h3 h4 r5 r6 hden f0 f1 v5
      go_enter Try.func52, Try.ntmps52
      go_wp2_with fail
      refine (rmul_any _ _ _ _ _ _ _ _ _ (((((S1.out.alloc _).alloc _).alloc _).alloc _).alloc _) (((((S2.out.alloc _).alloc _).alloc _).alloc _).alloc _)).mono ?_
      rw [e5.out]
      rintro e w1 ⟨A5, c5, rfl, hs5, hb⟩
      have Ka' : Hid (Cw w1 w.heap.size n1 A1 l1.length c1) := Cw.keep (Cw.keep (Cw.keep (Cw.keep (Cw.keep (Cw.fresh (by simp) _ _ _ _ _) (blw1 _ _)) (blw1 _ _)) (blw1 _ _)) (blw1 _ _)) hb
      have Kb' : Hid (Cw w1 (w.heap.size + 1) n2 A2 l2.length c2) := Cw.keep (Cw.keep (Cw.keep (Cw.keep (Cw.fresh (by simp) _ _ _ _ _) (blw1 _ _)) (blw1 _ _)) (blw1 _ _)) hb
      have Kc' : Hid (Cw w1 (w.heap.size + 1 + 1) n3 A3 l3.length c3) := Cw.keep (Cw.keep (Cw.keep (Cw.fresh (by simp) _ _ _ _ _) (blw1 _ _)) (blw1 _ _)) hb
      have Kd' : Hid (Cw w1 (w.heap.size + 1 + 1 + 1) n4 A4 l4.length c4) := Cw.keep (Cw.keep (Cw.fresh (by simp) _ _ _ _ _) (blw1 _ _)) hb
      have Fo' : Hid (Ff w1 (w.heap.size + 1 + 1 + 1 + 1)) := Ff.keep (Ff.fresh (by simp) _ _) (Cf.fresh (by simp) _ _ _ _ _ _ _ _ _) hb
      have Ko' : Hid (Cf w1 (w.heap.size + 1 + 1 + 1 + 1) false none 0 0 false none 0 0) := Cf.keep (Cf.fresh (by simp) _ _ _ _ _ _ _ _ _) hb
      have S1' : Hid (Sl w1 A1 l1 c1) := Sl.below (((((S1.out.alloc _).alloc _).alloc _).alloc _).alloc _) hb
      have S2' : Hid (Sl w1 A2 l2 c2) := Sl.below (((((S2.out.alloc _).alloc _).alloc _).alloc _).alloc _) hb
      have S3' : Hid (Sl w1 A3 l3 c3) := Sl.below (((((S3.out.alloc _).alloc _).alloc _).alloc _).alloc _) hb
      have S4' : Hid (Sl w1 A4 l4 c4) := Sl.below (((((S4.out.alloc _).alloc _).alloc _).alloc _).alloc _) hb
      have B' : Hid (Below w.heap.size w w1) := below_mono (below_mono (below_mono (below_mono (below_mono (below_mono B.out (blw1 _ _)) (blw1 _ _)) (blw1 _ _)) (blw1 _ _)) (blw1 _ _)) hb
      clear hb S1 S2 S3 S4 B
      have Ka := Ka'
      have Kb := Kb'
      have Kc := Kc'
      have Kd := Kd'
      have Fo := Fo'
      have Ko := Ko'
      have S1 := S1'
      have S2 := S2'
      have S3 := S3'
      have S4 := S4'
      have B := B'
      clear Ka' Kb' Kc' Kd' Fo' Ko' S1' S2' S3' S4' B'
      (try dsimp only at hs5)
      (try dsimp only)
      have S5 : Hid (Sl w1 A5 l5 c5) := hs5
      clear hs5
      obtain ⟨qc0, qc1⟩ := Kc.out
      obtain ⟨qd0, qd1⟩ := Kd.out
      obtain ⟨qo0, qo1, qo2, qo3⟩ := Ko.out
      obtain ⟨fo0, fo1, fo2, fo3⟩ := Fo.out
      have hza : w.heap.size < w1.heap.size := lt_of_cell (a := ⟨w.heap.size, 0, none⟩) Ka.out.1
      have hzb : w.heap.size + 1 < w1.heap.size := lt_of_cell (a := ⟨w.heap.size + 1, 0, none⟩) Kb.out.1
      have hzc : w.heap.size + 1 + 1 < w1.heap.size := lt_of_cell (a := ⟨w.heap.size + 1 + 1, 0, none⟩) Kc.out.1
      have hzd : w.heap.size + 1 + 1 + 1 < w1.heap.size := lt_of_cell (a := ⟨w.heap.size + 1 + 1 + 1, 0, none⟩) Kd.out.1
      have hzo : w.heap.size + 1 + 1 + 1 + 1 < w1.heap.size := lt_of_cell (a := ⟨w.heap.size + 1 + 1 + 1 + 1, 0, none⟩) Ko.out.1
      have hka5 := hza
      have hkb5 := hzb
      have hkc5 := hzc
      have hkd5 := hzd
      have hko5 := hzo
      go_wp2_with fail
      refine (rmul_any _ _ _ _ _ _ _ _ _ (S3.out.alloc _) (S4.out.alloc _)).mono ?_
      rw [e6.out]
      rintro e w2 ⟨A6, c6, rfl, hs6, hb⟩
      clear qc0 qc1 qd0 qd1 qo0 qo1 qo2 qo3 fo0 fo1 fo2 fo3
      have Ka' : Hid (Cw w2 w.heap.size n1 A1 l1.length c1) := Cw.keep (Cw.keep Ka.out (blw1 _ _)) hb
      have Kb' : Hid (Cw w2 (w.heap.size + 1) n2 A2 l2.length c2) := Cw.keep (Cw.keep Kb.out (blw1 _ _)) hb
      have Kc' : Hid (Cw w2 (w.heap.size + 1 + 1) n3 A3 l3.length c3) := Cw.keep (Cw.keep Kc.out (blw1 _ _)) hb
      have Kd' : Hid (Cw w2 (w.heap.size + 1 + 1 + 1) n4 A4 l4.length c4) := Cw.keep (Cw.keep Kd.out (blw1 _ _)) hb
      have Fo' : Hid (Ff w2 (w.heap.size + 1 + 1 + 1 + 1)) := Ff.keep (Ff.keep Fo.out Ko.out (blw1 _ _)) (Cf.keep Ko.out (blw1 _ _)) hb
      have Ko' : Hid (Cf w2 (w.heap.size + 1 + 1 + 1 + 1) false none 0 0 false none 0 0) := Cf.keep (Cf.keep Ko.out (blw1 _ _)) hb
      have K5' : Hid (Cw w2 w1.heap.size n5 A5 l5.length c5) := Cw.keep (Cw.fresh (by simp) _ _ _ _ _) hb
      have S1' : Hid (Sl w2 A1 l1 c1) := Sl.below (S1.out.alloc _) hb
      have S2' : Hid (Sl w2 A2 l2 c2) := Sl.below (S2.out.alloc _) hb
      have S3' : Hid (Sl w2 A3 l3 c3) := Sl.below (S3.out.alloc _) hb
      have S4' : Hid (Sl w2 A4 l4 c4) := Sl.below (S4.out.alloc _) hb
      have S5' : Hid (Sl w2 A5 l5 c5) := Sl.below (S5.out.alloc _) hb
      have B' : Hid (Below w.heap.size w w2) := below_mono (below_mono B.out (blw1 _ _)) hb
      clear hb Ka Kb Kc Kd Fo Ko S1 S2 S3 S4 S5 B
      have Ka := Ka'
      have Kb := Kb'
      have Kc := Kc'
      have Kd := Kd'
      have Fo := Fo'
      have Ko := Ko'
      have K5 := K5'
      have S1 := S1'
      have S2 := S2'
      have S3 := S3'
      have S4 := S4'
      have S5 := S5'
      have B := B'
      clear Ka' Kb' Kc' Kd' Fo' Ko' K5' S1' S2' S3' S4' S5' B'
      (try dsimp only at hs6)
      (try dsimp only)
      have S6 : Hid (Sl w2 A6 l6 c6) := hs6
      clear hs6
      obtain ⟨q50, q51⟩ := K5.out
      obtain ⟨qo0, qo1, qo2, qo3⟩ := Ko.out
      obtain ⟨fo0, fo1, fo2, fo3⟩ := Fo.out
      replace hza : w.heap.size < w2.heap.size := lt_of_cell (a := ⟨w.heap.size, 0, none⟩) Ka.out.1
      replace hzb : w.heap.size + 1 < w2.heap.size := lt_of_cell (a := ⟨w.heap.size + 1, 0, none⟩) Kb.out.1
      replace hzc : w.heap.size + 1 + 1 < w2.heap.size := lt_of_cell (a := ⟨w.heap.size + 1 + 1, 0, none⟩) Kc.out.1
      replace hzd : w.heap.size + 1 + 1 + 1 < w2.heap.size := lt_of_cell (a := ⟨w.heap.size + 1 + 1 + 1, 0, none⟩) Kd.out.1
      replace hzo : w.heap.size + 1 + 1 + 1 + 1 < w2.heap.size := lt_of_cell (a := ⟨w.heap.size + 1 + 1 + 1 + 1, 0, none⟩) Ko.out.1
      have hz5 : w1.heap.size < w2.heap.size := lt_of_cell (a := ⟨w1.heap.size, 0, none⟩) K5.out.1
      have hka6 := hza
      have hkb6 := hzb
      have hkc6 := hzc
      have hkd6 := hzd
      have hko6 := hzo
      have hk56 := hz5
      have hz9 : w.heap.size + 1 + 1 + 1 + 1 < w2.heap.size := by omega
      go_wp2
      exact bodyPost_ret (v := .tuple #[.agg #[.bool false, .slice none 0 0, .bool false, .slice none 0 0], .int .i64 16]) (by simp [results, Try.results52, go_sem, qo0, qo1, qo2, qo3, hz9]) rfl (FRes.alloc (fres_store4 (r := zF) 16 (Sl.nil _ none 0) (Sl.nil _ none 0) Ko.out B.out (by omega) _ _ _ _) _)
    | true =>
      obtain ⟨v6, rfl⟩ : VZ n6 l6 (y1 * y2) ∧ k6 = 0 := by
        rw [mulS_z h3 h4 (fitB_iff.1 f1)] at r6
        obtain ⟨e1, e2⟩ := Prod.mk.inj r6
        exact ⟨vz_mk e1.symm (fitB_iff.1 f1), e2.symm⟩
      rw [if_pos (by simp)]
      obtain ⟨⟨⟨na, la⟩, ⟨nb, lb⟩⟩, hr⟩ : ∃ r, r = redZ (x1 * x2) (y1 * y2) := ⟨_, rfl⟩
      have HR : Hid (∀ W A A' c c', Sl W A l5 c → Sl W A' l6 c' → Calls Try.prog 34 #[.agg #[.bool n5, .slice A l5.length c], .agg #[.bool n6, .slice A' l6.length c']] W (FRes1 ((na, la), (nb, lb)) W)) := fun W A A' c c' a b => by rw [hr]; exact rreduced_any n5 n6 A A' l5 l6 c c' _ _ v5 v6 hden W a b
      rw [← hr]
      clear hr
      clear h1 h2 h3 h4 r5 r6 hden f0 f1 v5 v6
      go_enter Try.func52, Try.ntmps52
      go_wp2_with fail
      refine (rmul_any _ _ _ _ _ _ _ _ _ (((((S1.out.alloc _).alloc _).alloc _).alloc _).alloc _) (((((S2.out.alloc _).alloc _).alloc _).alloc _).alloc _)).mono ?_
      rw [e5.out]
      rintro e w1 ⟨A5, c5, rfl, hs5, hb⟩
      have Ka' : Hid (Cw w1 w.heap.size n1 A1 l1.length c1) := Cw.keep (Cw.keep (Cw.keep (Cw.keep (Cw.keep (Cw.fresh (by simp) _ _ _ _ _) (blw1 _ _)) (blw1 _ _)) (blw1 _ _)) (blw1 _ _)) hb
      have Kb' : Hid (Cw w1 (w.heap.size + 1) n2 A2 l2.length c2) := Cw.keep (Cw.keep (Cw.keep (Cw.keep (Cw.fresh (by simp) _ _ _ _ _) (blw1 _ _)) (blw1 _ _)) (blw1 _ _)) hb
      have Kc' : Hid (Cw w1 (w.heap.size + 1 + 1) n3 A3 l3.length c3) := Cw.keep (Cw.keep (Cw.keep (Cw.fresh (by simp) _ _ _ _ _) (blw1 _ _)) (blw1 _ _)) hb
      have Kd' : Hid (Cw w1 (w.heap.size + 1 + 1 + 1) n4 A4 l4.length c4) := Cw.keep (Cw.keep (Cw.fresh (by simp) _ _ _ _ _) (blw1 _ _)) hb
      have Fo' : Hid (Ff w1 (w.heap.size + 1 + 1 + 1 + 1)) := Ff.keep (Ff.fresh (by simp) _ _) (Cf.fresh (by simp) _ _ _ _ _ _ _ _ _) hb
      have Ko' : Hid (Cf w1 (w.heap.size + 1 + 1 + 1 + 1) false none 0 0 false none 0 0) := Cf.keep (Cf.fresh (by simp) _ _ _ _ _ _ _ _ _) hb
      have S1' : Hid (Sl w1 A1 l1 c1) := Sl.below (((((S1.out.alloc _).alloc _).alloc _).alloc _).alloc _) hb
      have S2' : Hid (Sl w1 A2 l2 c2) := Sl.below (((((S2.out.alloc _).alloc _).alloc _).alloc _).alloc _) hb
      have S3' : Hid (Sl w1 A3 l3 c3) := Sl.below (((((S3.out.alloc _).alloc _).alloc _).alloc _).alloc _) hb
      have S4' : Hid (Sl w1 A4 l4 c4) := Sl.below (((((S4.out.alloc _).alloc _).alloc _).alloc _).alloc _) hb
      have B' : Hid (Below w.heap.size w w1) := below_mono (below_mono (below_mono (below_mono (below_mono (below_mono B.out (blw1 _ _)) (blw1 _ _)) (blw1 _ _)) (blw1 _ _)) (blw1 _ _)) hb
      clear hb S1 S2 S3 S4 B
      have Ka := Ka'
      have Kb := Kb'
      have Kc := Kc'
      have Kd := Kd'
      have Fo := Fo'
      have Ko := Ko'
      have S1 := S1'
      have S2 := S2'
      have S3 := S3'
      have S4 := S4'
      have B := B'
      clear Ka' Kb' Kc' Kd' Fo' Ko' S1' S2' S3' S4' B'
      (try dsimp only at hs5)
      (try dsimp only)
      have S5 : Hid (Sl w1 A5 l5 c5) := hs5
      clear hs5
      obtain ⟨qc0, qc1⟩ := Kc.out
      obtain ⟨qd0, qd1⟩ := Kd.out
      obtain ⟨qo0, qo1, qo2, qo3⟩ := Ko.out
      obtain ⟨fo0, fo1, fo2, fo3⟩ := Fo.out
      have hza : w.heap.size < w1.heap.size := lt_of_cell (a := ⟨w.heap.size, 0, none⟩) Ka.out.1
      have hzb : w.heap.size + 1 < w1.heap.size := lt_of_cell (a := ⟨w.heap.size + 1, 0, none⟩) Kb.out.1
      have hzc : w.heap.size + 1 + 1 < w1.heap.size := lt_of_cell (a := ⟨w.heap.size + 1 + 1, 0, none⟩) Kc.out.1
      have hzd : w.heap.size + 1 + 1 + 1 < w1.heap.size := lt_of_cell (a := ⟨w.heap.size + 1 + 1 + 1, 0, none⟩) Kd.out.1
      have hzo : w.heap.size + 1 + 1 + 1 + 1 < w1.heap.size := lt_of_cell (a := ⟨w.heap.size + 1 + 1 + 1 + 1, 0, none⟩) Ko.out.1
      have hka5 := hza
      have hkb5 := hzb
      have hkc5 := hzc
      have hkd5 := hzd
      have hko5 := hzo
      go_wp2_with fail
      refine (rmul_any _ _ _ _ _ _ _ _ _ (S3.out.alloc _) (S4.out.alloc _)).mono ?_
      rw [e6.out]
      rintro e w2 ⟨A6, c6, rfl, hs6, hb⟩
      clear qc0 qc1 qd0 qd1 qo0 qo1 qo2 qo3 fo0 fo1 fo2 fo3
      have Ka' : Hid (Cw w2 w.heap.size n1 A1 l1.length c1) := Cw.keep (Cw.keep Ka.out (blw1 _ _)) hb
      have Kb' : Hid (Cw w2 (w.heap.size + 1) n2 A2 l2.length c2) := Cw.keep (Cw.keep Kb.out (blw1 _ _)) hb
      have Kc' : Hid (Cw w2 (w.heap.size + 1 + 1) n3 A3 l3.length c3) := Cw.keep (Cw.keep Kc.out (blw1 _ _)) hb
      have Kd' : Hid (Cw w2 (w.heap.size + 1 + 1 + 1) n4 A4 l4.length c4) := Cw.keep (Cw.keep Kd.out (blw1 _ _)) hb
      have Fo' : Hid (Ff w2 (w.heap.size + 1 + 1 + 1 + 1)) := Ff.keep (Ff.keep Fo.out Ko.out (blw1 _ _)) (Cf.keep Ko.out (blw1 _ _)) hb
      have Ko' : Hid (Cf w2 (w.heap.size + 1 + 1 + 1 + 1) false none 0 0 false none 0 0) := Cf.keep (Cf.keep Ko.out (blw1 _ _)) hb
      have K5' : Hid (Cw w2 w1.heap.size n5 A5 l5.length c5) := Cw.keep (Cw.fresh (by simp) _ _ _ _ _) hb
      have S1' : Hid (Sl w2 A1 l1 c1) := Sl.below (S1.out.alloc _) hb
      have S2' : Hid (Sl w2 A2 l2 c2) := Sl.below (S2.out.alloc _) hb
      have S3' : Hid (Sl w2 A3 l3 c3) := Sl.below (S3.out.alloc _) hb
      have S4' : Hid (Sl w2 A4 l4 c4) := Sl.below (S4.out.alloc _) hb
      have S5' : Hid (Sl w2 A5 l5 c5) := Sl.below (S5.out.alloc _) hb
      have B' : Hid (Below w.heap.size w w2) := below_mono (below_mono B.out (blw1 _ _)) hb
      clear hb Ka Kb Kc Kd Fo Ko S1 S2 S3 S4 S5 B
      have Ka := Ka'
      have Kb := Kb'
      have Kc := Kc'
      have Kd := Kd'
      have Fo := Fo'
      have Ko := Ko'
      have K5 := K5'
      have S1 := S1'
      have S2 := S2'
      have S3 := S3'
      have S4 := S4'
      have S5 := S5'
      have B := B'
      clear Ka' Kb' Kc' Kd' Fo' Ko' K5' S1' S2' S3' S4' S5' B'
      (try dsimp only at hs6)
      (try dsimp only)
      have S6 : Hid (Sl w2 A6 l6 c6) := hs6
      clear hs6
      obtain ⟨q50, q51⟩ := K5.out
      obtain ⟨qo0, qo1, qo2, qo3⟩ := Ko.out
      obtain ⟨fo0, fo1, fo2, fo3⟩ := Fo.out
      replace hza : w.heap.size < w2.heap.size := lt_of_cell (a := ⟨w.heap.size, 0, none⟩) Ka.out.1
      replace hzb : w.heap.size + 1 < w2.heap.size := lt_of_cell (a := ⟨w.heap.size + 1, 0, none⟩) Kb.out.1
      replace hzc : w.heap.size + 1 + 1 < w2.heap.size := lt_of_cell (a := ⟨w.heap.size + 1 + 1, 0, none⟩) Kc.out.1
      replace hzd : w.heap.size + 1 + 1 + 1 < w2.heap.size := lt_of_cell (a := ⟨w.heap.size + 1 + 1 + 1, 0, none⟩) Kd.out.1
      replace hzo : w.heap.size + 1 + 1 + 1 + 1 < w2.heap.size := lt_of_cell (a := ⟨w.heap.size + 1 + 1 + 1 + 1, 0, none⟩) Ko.out.1
      have hz5 : w1.heap.size < w2.heap.size := lt_of_cell (a := ⟨w1.heap.size, 0, none⟩) K5.out.1
      have hka6 := hza
      have hkb6 := hzb
      have hkc6 := hzc
      have hkd6 := hzd
      have hko6 := hzo
      have hk56 := hz5
      go_wp2_with fail
      refine (HR.out _ _ _ _ _ (S5.out.alloc _) (S6.out.alloc _)).mono ?_
      rintro e w3 ⟨A9, c9, B9, d9, rfl, hsx, hsy, hb⟩
      clear q50 q51 qo0 qo1 qo2 qo3 fo0 fo1 fo2 fo3
      have Ka' : Hid (Cw w3 w.heap.size n1 A1 l1.length c1) := Cw.keep (Cw.keep Ka.out (blw1 _ _)) hb
      have Kb' : Hid (Cw w3 (w.heap.size + 1) n2 A2 l2.length c2) := Cw.keep (Cw.keep Kb.out (blw1 _ _)) hb
      have Kc' : Hid (Cw w3 (w.heap.size + 1 + 1) n3 A3 l3.length c3) := Cw.keep (Cw.keep Kc.out (blw1 _ _)) hb
      have Kd' : Hid (Cw w3 (w.heap.size + 1 + 1 + 1) n4 A4 l4.length c4) := Cw.keep (Cw.keep Kd.out (blw1 _ _)) hb
      have Fo' : Hid (Ff w3 (w.heap.size + 1 + 1 + 1 + 1)) := Ff.keep (Ff.keep Fo.out Ko.out (blw1 _ _)) (Cf.keep Ko.out (blw1 _ _)) hb
      have Ko' : Hid (Cf w3 (w.heap.size + 1 + 1 + 1 + 1) false none 0 0 false none 0 0) := Cf.keep (Cf.keep Ko.out (blw1 _ _)) hb
      have K5' : Hid (Cw w3 w1.heap.size n5 A5 l5.length c5) := Cw.keep (Cw.keep K5.out (blw1 _ _)) hb
      have K6' : Hid (Cw w3 w2.heap.size n6 A6 l6.length c6) := Cw.keep (Cw.fresh (by simp) _ _ _ _ _) hb
      have S1' : Hid (Sl w3 A1 l1 c1) := Sl.below (S1.out.alloc _) hb
      have S2' : Hid (Sl w3 A2 l2 c2) := Sl.below (S2.out.alloc _) hb
      have S3' : Hid (Sl w3 A3 l3 c3) := Sl.below (S3.out.alloc _) hb
      have S4' : Hid (Sl w3 A4 l4 c4) := Sl.below (S4.out.alloc _) hb
      have S5' : Hid (Sl w3 A5 l5 c5) := Sl.below (S5.out.alloc _) hb
      have S6' : Hid (Sl w3 A6 l6 c6) := Sl.below (S6.out.alloc _) hb
      have B' : Hid (Below w.heap.size w w3) := below_mono (below_mono B.out (blw1 _ _)) hb
      clear hb Ka Kb Kc Kd Fo Ko K5 S1 S2 S3 S4 S5 S6 B
      have Ka := Ka'
      have Kb := Kb'
      have Kc := Kc'
      have Kd := Kd'
      have Fo := Fo'
      have Ko := Ko'
      have K5 := K5'
      have K6 := K6'
      have S1 := S1'
      have S2 := S2'
      have S3 := S3'
      have S4 := S4'
      have S5 := S5'
      have S6 := S6'
      have B := B'
      clear Ka' Kb' Kc' Kd' Fo' Ko' K5' K6' S1' S2' S3' S4' S5' S6' B'
      (try dsimp only at hsx hsy)
      (try dsimp only)
      have Sx : Hid (Sl w3 A9 la c9) := hsx
      clear hsx
      have Sy : Hid (Sl w3 B9 lb d9) := hsy
      clear hsy
      obtain ⟨qo0, qo1, qo2, qo3⟩ := Ko.out
      obtain ⟨fo0, fo1, fo2, fo3⟩ := Fo.out
      replace hza : w.heap.size < w3.heap.size := lt_of_cell (a := ⟨w.heap.size, 0, none⟩) Ka.out.1
      replace hzb : w.heap.size + 1 < w3.heap.size := lt_of_cell (a := ⟨w.heap.size + 1, 0, none⟩) Kb.out.1
      replace hzc : w.heap.size + 1 + 1 < w3.heap.size := lt_of_cell (a := ⟨w.heap.size + 1 + 1, 0, none⟩) Kc.out.1
      replace hzd : w.heap.size + 1 + 1 + 1 < w3.heap.size := lt_of_cell (a := ⟨w.heap.size + 1 + 1 + 1, 0, none⟩) Kd.out.1
      replace hzo : w.heap.size + 1 + 1 + 1 + 1 < w3.heap.size := lt_of_cell (a := ⟨w.heap.size + 1 + 1 + 1 + 1, 0, none⟩) Ko.out.1
      replace hz5 : w1.heap.size < w3.heap.size := lt_of_cell (a := ⟨w1.heap.size, 0, none⟩) K5.out.1
      have hz6 : w2.heap.size < w3.heap.size := lt_of_cell (a := ⟨w2.heap.size, 0, none⟩) K6.out.1
      go_wp2_with fail
      exact bodyPost_ret (v := .tuple #[.agg #[.bool na, .slice A9 la.length c9, .bool nb, .slice B9 lb.length d9], .int .i64 0]) (by simp [results, Try.results52, go_sem, qo0, qo1, qo2, qo3]) rfl (fres_store4 (r := ((na, la), (nb, lb))) 0 Sx.out Sy.out Ko.out B.out (by omega) _ _ _ _)

end Go.Proofs.Ythlfidbhldbedaa
/- Walks: the reference's both, added, product, Add, Sub, Mul, Div. -/
namespace Go.Proofs.Ythlfidbhldbedaa
open Go.RowKit
attribute [local go_sem ↓] Go.wp_at_zero Go.wp_at_succ
set_option maxRecDepth 100000 in
set_option maxHeartbeats 2000000 in
theorem radded_add (n1 n2 n3 n4 : Bool) (A1 A2 A3 A4 : Option Addr) (l1 l2 l3 l4 : List Nat) (c1 c2 c3 c4 : Nat) (x1 y1 x2 y2 : Int) (h1 : VZ n1 l1 x1) (h2 : VZ n2 l2 y1) (h3 : VZ n3 l3 x2) (h4 : VZ n4 l4 y2) (hden : y1 * y2 ≠ 0) (w : World) (hs1 : Sl w A1 l1 c1) (hs2 : Sl w A2 l2 c2) (hs3 : Sl w A3 l3 c3) (hs4 : Sl w A4 l4 c4) :
    Calls Try.prog 48 #[.agg #[.bool n1, .slice A1 l1.length c1, .bool n2, .slice A2 l2.length c2], .agg #[.bool n3, .slice A3 l3.length c3, .bool n4, .slice A4 l4.length c4], .bool false] w (FRes (addV x1 y1 x2 y2) w) := by
  have S1 := Lib.hid hs1
  have S2 := Lib.hid hs2
  have S3 := Lib.hid hs3
  have S4 := Lib.hid hs4
  have B : Hid (Below w.heap.size w w) := Below.refl _ _
  unfold addV outF
  obtain ⟨⟨⟨n5, l5⟩, k5⟩, r5⟩ : ∃ r, mulS n1 l1 n4 l4 = r := ⟨_, rfl⟩
  obtain ⟨⟨⟨n6, l6⟩, k6⟩, r6⟩ : ∃ r, mulS n3 l3 n2 l2 = r := ⟨_, rfl⟩
  obtain ⟨⟨⟨n7, l7⟩, k7⟩, r7⟩ : ∃ r, mulS n2 l2 n4 l4 = r := ⟨_, rfl⟩
  have e5 := Lib.hid r5
  have e6 := Lib.hid r6
  have e7 := Lib.hid r7
  clear hs1 hs2 hs3 hs4
  cases f0 : fitB (x1 * y2) with
  | false =>
    rw [if_neg (by simp)]
    obtain rfl : k5 = 16 := by
      rw [mulS_out h1 h4, outZ_bad (fun e => by rw [fitB_iff.2 e] at f0; cases f0)] at r5
      exact (Prod.mk.inj r5).2.symm
    clear h1 h2 h3 h4 r5 r6 r7 hden f0
    go_enter Try.func48, Try.ntmps48
    go_wp2_with fail
    refine (rmul_any _ _ _ _ _ _ _ _ _ (((S1.out.alloc _).alloc _).alloc _) (((S4.out.alloc _).alloc _).alloc _)).mono ?_
    rw [e5.out]
    rintro e w1 ⟨A5, c5, rfl, hs5, hb⟩
    have Ka' : Hid (Cf w1 w.heap.size n1 A1 l1.length c1 n2 A2 l2.length c2) := Cf.keep (Cf.keep (Cf.keep (Cf.fresh (by simp) _ _ _ _ _ _ _ _ _) (blw1 _ _)) (blw1 _ _)) hb
    have Kb' : Hid (Cf w1 (w.heap.size + 1) n3 A3 l3.length c3 n4 A4 l4.length c4) := Cf.keep (Cf.keep (Cf.fresh (by simp) _ _ _ _ _ _ _ _ _) (blw1 _ _)) hb
    have Fo' : Hid (Ff w1 (w.heap.size + 1 + 1)) := Ff.keep (Ff.fresh (by simp) _ _) (Cf.fresh (by simp) _ _ _ _ _ _ _ _ _) hb
    have Ko' : Hid (Cf w1 (w.heap.size + 1 + 1) false none 0 0 false none 0 0) := Cf.keep (Cf.fresh (by simp) _ _ _ _ _ _ _ _ _) hb
    have S1' : Hid (Sl w1 A1 l1 c1) := Sl.below (((S1.out.alloc _).alloc _).alloc _) hb
    have S2' : Hid (Sl w1 A2 l2 c2) := Sl.below (((S2.out.alloc _).alloc _).alloc _) hb
    have S3' : Hid (Sl w1 A3 l3 c3) := Sl.below (((S3.out.alloc _).alloc _).alloc _) hb
    have S4' : Hid (Sl w1 A4 l4 c4) := Sl.below (((S4.out.alloc _).alloc _).alloc _) hb
    have B' : Hid (Below w.heap.size w w1) := below_mono (below_mono (below_mono (below_mono B.out (blw1 _ _)) (blw1 _ _)) (blw1 _ _)) hb
    clear hb S1 S2 S3 S4 B
    have Ka := Ka'
    have Kb := Kb'
    have Fo := Fo'
    have Ko := Ko'
    have S1 := S1'
    have S2 := S2'
    have S3 := S3'
    have S4 := S4'
    have B := B'
    clear Ka' Kb' Fo' Ko' S1' S2' S3' S4' B'
    (try dsimp only at hs5)
    (try dsimp only)
    have S5 : Hid (Sl w1 A5 l5 c5) := hs5
    clear hs5
    obtain ⟨qa0, qa1, qa2, qa3⟩ := Ka.out
    obtain ⟨qb0, qb1, qb2, qb3⟩ := Kb.out
    obtain ⟨qo0, qo1, qo2, qo3⟩ := Ko.out
    obtain ⟨fo0, fo1, fo2, fo3⟩ := Fo.out
    have hza : w.heap.size < w1.heap.size := lt_of_cell (a := ⟨w.heap.size, 0, none⟩) Ka.out.1
    have hzb : w.heap.size + 1 < w1.heap.size := lt_of_cell (a := ⟨w.heap.size + 1, 0, none⟩) Kb.out.1
    have hzo : w.heap.size + 1 + 1 < w1.heap.size := lt_of_cell (a := ⟨w.heap.size + 1 + 1, 0, none⟩) Ko.out.1
    have hka5 := hza
    have hkb5 := hzb
    have hko5 := hzo
    go_wp2_with fail
    refine (rmul_any _ _ _ _ _ _ _ _ _ (S3.out.alloc _) (S2.out.alloc _)).mono ?_
    rw [e6.out]
    rintro e w2 ⟨A6, c6, rfl, hs6, hb⟩
    clear qa0 qa1 qa2 qa3 qb0 qb1 qb2 qb3 qo0 qo1 qo2 qo3 fo0 fo1 fo2 fo3
    have Ka' : Hid (Cf w2 w.heap.size n1 A1 l1.length c1 n2 A2 l2.length c2) := Cf.keep (Cf.keep Ka.out (blw1 _ _)) hb
    have Kb' : Hid (Cf w2 (w.heap.size + 1) n3 A3 l3.length c3 n4 A4 l4.length c4) := Cf.keep (Cf.keep Kb.out (blw1 _ _)) hb
    have Fo' : Hid (Ff w2 (w.heap.size + 1 + 1)) := Ff.keep (Ff.keep Fo.out Ko.out (blw1 _ _)) (Cf.keep Ko.out (blw1 _ _)) hb
    have Ko' : Hid (Cf w2 (w.heap.size + 1 + 1) false none 0 0 false none 0 0) := Cf.keep (Cf.keep Ko.out (blw1 _ _)) hb
    have K5' : Hid (Cw w2 w1.heap.size n5 A5 l5.length c5) := Cw.keep (Cw.fresh (by simp) _ _ _ _ _) hb
    have S1' : Hid (Sl w2 A1 l1 c1) := Sl.below (S1.out.alloc _) hb
    have S2' : Hid (Sl w2 A2 l2 c2) := Sl.below (S2.out.alloc _) hb
    have S3' : Hid (Sl w2 A3 l3 c3) := Sl.below (S3.out.alloc _) hb
    have S4' : Hid (Sl w2 A4 l4 c4) := Sl.below (S4.out.alloc _) hb
    have S5' : Hid (Sl w2 A5 l5 c5) := Sl.below (S5.out.alloc _) hb
    have B' : Hid (Below w.heap.size w w2) := below_mono (below_mono B.out (blw1 _ _)) hb
    clear hb Ka Kb Fo Ko S1 S2 S3 S4 S5 B
    have Ka := Ka'
    have Kb := Kb'
    have Fo := Fo'
    have Ko := Ko'
    have K5 := K5'
    have S1 := S1'
    have S2 := S2'
    have S3 := S3'
    have S4 := S4'
    have S5 := S5'
    have B := B'
    clear Ka' Kb' Fo' Ko' K5' S1' S2' S3' S4' S5' B'
    (try dsimp only at hs6)
    (try dsimp only)
    have S6 : Hid (Sl w2 A6 l6 c6) := hs6
    clear hs6
    obtain ⟨qa0, qa1, qa2, qa3⟩ := Ka.out
    obtain ⟨qb0, qb1, qb2, qb3⟩ := Kb.out
    obtain ⟨qo0, qo1, qo2, qo3⟩ := Ko.out
    obtain ⟨fo0, fo1, fo2, fo3⟩ := Fo.out
    replace hza : w.heap.size < w2.heap.size := lt_of_cell (a := ⟨w.heap.size, 0, none⟩) Ka.out.1
    replace hzb : w.heap.size + 1 < w2.heap.size := lt_of_cell (a := ⟨w.heap.size + 1, 0, none⟩) Kb.out.1
    replace hzo : w.heap.size + 1 + 1 < w2.heap.size := lt_of_cell (a := ⟨w.heap.size + 1 + 1, 0, none⟩) Ko.out.1
    have hz5 : w1.heap.size < w2.heap.size := lt_of_cell (a := ⟨w1.heap.size, 0, none⟩) K5.out.1
    have hka6 := hza
    have hkb6 := hzb
    have hko6 := hzo
    have hk56 := hz5
    go_wp2_with fail
    refine (rmul_any _ _ _ _ _ _ _ _ _ (S2.out.alloc _) (S4.out.alloc _)).mono ?_
    rw [e7.out]
    rintro e w3 ⟨A7, c7, rfl, hs7, hb⟩
    clear qa0 qa1 qa2 qa3 qb0 qb1 qb2 qb3 qo0 qo1 qo2 qo3 fo0 fo1 fo2 fo3
    have Ka' : Hid (Cf w3 w.heap.size n1 A1 l1.length c1 n2 A2 l2.length c2) := Cf.keep (Cf.keep Ka.out (blw1 _ _)) hb
    have Kb' : Hid (Cf w3 (w.heap.size + 1) n3 A3 l3.length c3 n4 A4 l4.length c4) := Cf.keep (Cf.keep Kb.out (blw1 _ _)) hb
    have Fo' : Hid (Ff w3 (w.heap.size + 1 + 1)) := Ff.keep (Ff.keep Fo.out Ko.out (blw1 _ _)) (Cf.keep Ko.out (blw1 _ _)) hb
    have Ko' : Hid (Cf w3 (w.heap.size + 1 + 1) false none 0 0 false none 0 0) := Cf.keep (Cf.keep Ko.out (blw1 _ _)) hb
    have K5' : Hid (Cw w3 w1.heap.size n5 A5 l5.length c5) := Cw.keep (Cw.keep K5.out (blw1 _ _)) hb
    have K6' : Hid (Cw w3 w2.heap.size n6 A6 l6.length c6) := Cw.keep (Cw.fresh (by simp) _ _ _ _ _) hb
    have S1' : Hid (Sl w3 A1 l1 c1) := Sl.below (S1.out.alloc _) hb
    have S2' : Hid (Sl w3 A2 l2 c2) := Sl.below (S2.out.alloc _) hb
    have S3' : Hid (Sl w3 A3 l3 c3) := Sl.below (S3.out.alloc _) hb
    have S4' : Hid (Sl w3 A4 l4 c4) := Sl.below (S4.out.alloc _) hb
    have S5' : Hid (Sl w3 A5 l5 c5) := Sl.below (S5.out.alloc _) hb
    have S6' : Hid (Sl w3 A6 l6 c6) := Sl.below (S6.out.alloc _) hb
    have B' : Hid (Below w.heap.size w w3) := below_mono (below_mono B.out (blw1 _ _)) hb
    clear hb Ka Kb Fo Ko K5 S1 S2 S3 S4 S5 S6 B
    have Ka := Ka'
    have Kb := Kb'
    have Fo := Fo'
    have Ko := Ko'
    have K5 := K5'
    have K6 := K6'
    have S1 := S1'
    have S2 := S2'
    have S3 := S3'
    have S4 := S4'
    have S5 := S5'
    have S6 := S6'
    have B := B'
    clear Ka' Kb' Fo' Ko' K5' K6' S1' S2' S3' S4' S5' S6' B'
    (try dsimp only at hs7)
    (try dsimp only)
    have S7 : Hid (Sl w3 A7 l7 c7) := hs7
    clear hs7
    obtain ⟨qa0, qa1, qa2, qa3⟩ := Ka.out
    obtain ⟨qb0, qb1, qb2, qb3⟩ := Kb.out
    obtain ⟨qo0, qo1, qo2, qo3⟩ := Ko.out
    obtain ⟨fo0, fo1, fo2, fo3⟩ := Fo.out
    obtain ⟨q50, q51⟩ := K5.out
    obtain ⟨q60, q61⟩ := K6.out
    replace hza : w.heap.size < w3.heap.size := lt_of_cell (a := ⟨w.heap.size, 0, none⟩) Ka.out.1
    replace hzb : w.heap.size + 1 < w3.heap.size := lt_of_cell (a := ⟨w.heap.size + 1, 0, none⟩) Kb.out.1
    replace hzo : w.heap.size + 1 + 1 < w3.heap.size := lt_of_cell (a := ⟨w.heap.size + 1 + 1, 0, none⟩) Ko.out.1
    replace hz5 : w1.heap.size < w3.heap.size := lt_of_cell (a := ⟨w1.heap.size, 0, none⟩) K5.out.1
    have hz6 : w2.heap.size < w3.heap.size := lt_of_cell (a := ⟨w2.heap.size, 0, none⟩) K6.out.1
    have hka7 := hza
    have hkb7 := hzb
    have hko7 := hzo
    have hk57 := hz5
    have hk67 := hz6
    have hz9 : w.heap.size + 1 + 1 < w3.heap.size := by omega
    go_wp2
    exact bodyPost_ret (v := .tuple #[.agg #[.bool false, .slice none 0 0, .bool false, .slice none 0 0], .int .i64 16]) (by simp [results, Try.results48, go_sem, qo0, qo1, qo2, qo3, hz9]) rfl (FRes.alloc (fres_store4 (r := zF) 16 (Sl.nil _ none 0) (Sl.nil _ none 0) Ko.out B.out (by omega) _ _ _ _) _)
  | true =>
    have v5 : VZ n5 l5 (x1 * y2) ∧ k5 = 0 := by
      rw [mulS_z h1 h4 (fitB_iff.1 f0)] at r5
      obtain ⟨e1, e2⟩ := Prod.mk.inj r5
      exact ⟨vz_mk e1.symm (fitB_iff.1 f0), e2.symm⟩
    obtain ⟨v5, rfl⟩ := v5
    cases f1 : fitB (x2 * y1) with
    | false =>
      rw [if_neg (by simp)]
      obtain rfl : k6 = 16 := by
        rw [mulS_out h3 h2, outZ_bad (fun e => by rw [fitB_iff.2 e] at f1; cases f1)] at r6
        exact (Prod.mk.inj r6).2.symm
      clear h1 h2 h3 h4 r5 r6 r7 hden f0 f1 v5
      go_enter Try.func48, Try.ntmps48
      go_wp2_with fail
      refine (rmul_any _ _ _ _ _ _ _ _ _ (((S1.out.alloc _).alloc _).alloc _) (((S4.out.alloc _).alloc _).alloc _)).mono ?_
      rw [e5.out]
      rintro e w1 ⟨A5, c5, rfl, hs5, hb⟩
      have Ka' : Hid (Cf w1 w.heap.size n1 A1 l1.length c1 n2 A2 l2.length c2) := Cf.keep (Cf.keep (Cf.keep (Cf.fresh (by simp) _ _ _ _ _ _ _ _ _) (blw1 _ _)) (blw1 _ _)) hb
      have Kb' : Hid (Cf w1 (w.heap.size + 1) n3 A3 l3.length c3 n4 A4 l4.length c4) := Cf.keep (Cf.keep (Cf.fresh (by simp) _ _ _ _ _ _ _ _ _) (blw1 _ _)) hb
      have Fo' : Hid (Ff w1 (w.heap.size + 1 + 1)) := Ff.keep (Ff.fresh (by simp) _ _) (Cf.fresh (by simp) _ _ _ _ _ _ _ _ _) hb
      have Ko' : Hid (Cf w1 (w.heap.size + 1 + 1) false none 0 0 false none 0 0) := Cf.keep (Cf.fresh (by simp) _ _ _ _ _ _ _ _ _) hb
      have S1' : Hid (Sl w1 A1 l1 c1) := Sl.below (((S1.out.alloc _).alloc _).alloc _) hb
      have S2' : Hid (Sl w1 A2 l2 c2) := Sl.below (((S2.out.alloc _).alloc _).alloc _) hb
      have S3' : Hid (Sl w1 A3 l3 c3) := Sl.below (((S3.out.alloc _).alloc _).alloc _) hb
      have S4' : Hid (Sl w1 A4 l4 c4) := Sl.below (((S4.out.alloc _).alloc _).alloc _) hb
      have B' : Hid (Below w.heap.size w w1) := below_mono (below_mono (below_mono (below_mono B.out (blw1 _ _)) (blw1 _ _)) (blw1 _ _)) hb
      clear hb S1 S2 S3 S4 B
      have Ka := Ka'
      have Kb := Kb'
      have Fo := Fo'
      have Ko := Ko'
      have S1 := S1'
      have S2 := S2'
      have S3 := S3'
      have S4 := S4'
      have B := B'
      clear Ka' Kb' Fo' Ko' S1' S2' S3' S4' B'
      (try dsimp only at hs5)
      (try dsimp only)
      have S5 : Hid (Sl w1 A5 l5 c5) := hs5
      clear hs5
      obtain ⟨qa0, qa1, qa2, qa3⟩ := Ka.out
      obtain ⟨qb0, qb1, qb2, qb3⟩ := Kb.out
      obtain ⟨qo0, qo1, qo2, qo3⟩ := Ko.out
      obtain ⟨fo0, fo1, fo2, fo3⟩ := Fo.out
      have hza : w.heap.size < w1.heap.size := lt_of_cell (a := ⟨w.heap.size, 0, none⟩) Ka.out.1
      have hzb : w.heap.size + 1 < w1.heap.size := lt_of_cell (a := ⟨w.heap.size + 1, 0, none⟩) Kb.out.1
      have hzo : w.heap.size + 1 + 1 < w1.heap.size := lt_of_cell (a := ⟨w.heap.size + 1 + 1, 0, none⟩) Ko.out.1
      have hka5 := hza
      have hkb5 := hzb
      have hko5 := hzo
      go_wp2_with fail
      refine (rmul_any _ _ _ _ _ _ _ _ _ (S3.out.alloc _) (S2.out.alloc _)).mono ?_
      rw [e6.out]
      rintro e w2 ⟨A6, c6, rfl, hs6, hb⟩
      clear qa0 qa1 qa2 qa3 qb0 qb1 qb2 qb3 qo0 qo1 qo2 qo3 fo0 fo1 fo2 fo3
      have Ka' : Hid (Cf w2 w.heap.size n1 A1 l1.length c1 n2 A2 l2.length c2) := Cf.keep (Cf.keep Ka.out (blw1 _ _)) hb
      have Kb' : Hid (Cf w2 (w.heap.size + 1) n3 A3 l3.length c3 n4 A4 l4.length c4) := Cf.keep (Cf.keep Kb.out (blw1 _ _)) hb
      have Fo' : Hid (Ff w2 (w.heap.size + 1 + 1)) := Ff.keep (Ff.keep Fo.out Ko.out (blw1 _ _)) (Cf.keep Ko.out (blw1 _ _)) hb
      have Ko' : Hid (Cf w2 (w.heap.size + 1 + 1) false none 0 0 false none 0 0) := Cf.keep (Cf.keep Ko.out (blw1 _ _)) hb
      have K5' : Hid (Cw w2 w1.heap.size n5 A5 l5.length c5) := Cw.keep (Cw.fresh (by simp) _ _ _ _ _) hb
      have S1' : Hid (Sl w2 A1 l1 c1) := Sl.below (S1.out.alloc _) hb
      have S2' : Hid (Sl w2 A2 l2 c2) := Sl.below (S2.out.alloc _) hb
      have S3' : Hid (Sl w2 A3 l3 c3) := Sl.below (S3.out.alloc _) hb
      have S4' : Hid (Sl w2 A4 l4 c4) := Sl.below (S4.out.alloc _) hb
      have S5' : Hid (Sl w2 A5 l5 c5) := Sl.below (S5.out.alloc _) hb
      have B' : Hid (Below w.heap.size w w2) := below_mono (below_mono B.out (blw1 _ _)) hb
      clear hb Ka Kb Fo Ko S1 S2 S3 S4 S5 B
      have Ka := Ka'
      have Kb := Kb'
      have Fo := Fo'
      have Ko := Ko'
      have K5 := K5'
      have S1 := S1'
      have S2 := S2'
      have S3 := S3'
      have S4 := S4'
      have S5 := S5'
      have B := B'
      clear Ka' Kb' Fo' Ko' K5' S1' S2' S3' S4' S5' B'
      (try dsimp only at hs6)
      (try dsimp only)
      have S6 : Hid (Sl w2 A6 l6 c6) := hs6
      clear hs6
      obtain ⟨qa0, qa1, qa2, qa3⟩ := Ka.out
      obtain ⟨qb0, qb1, qb2, qb3⟩ := Kb.out
      obtain ⟨qo0, qo1, qo2, qo3⟩ := Ko.out
      obtain ⟨fo0, fo1, fo2, fo3⟩ := Fo.out
      replace hza : w.heap.size < w2.heap.size := lt_of_cell (a := ⟨w.heap.size, 0, none⟩) Ka.out.1
      replace hzb : w.heap.size + 1 < w2.heap.size := lt_of_cell (a := ⟨w.heap.size + 1, 0, none⟩) Kb.out.1
      replace hzo : w.heap.size + 1 + 1 < w2.heap.size := lt_of_cell (a := ⟨w.heap.size + 1 + 1, 0, none⟩) Ko.out.1
      have hz5 : w1.heap.size < w2.heap.size := lt_of_cell (a := ⟨w1.heap.size, 0, none⟩) K5.out.1
      have hka6 := hza
      have hkb6 := hzb
      have hko6 := hzo
      have hk56 := hz5
      go_wp2_with fail
      refine (rmul_any _ _ _ _ _ _ _ _ _ (S2.out.alloc _) (S4.out.alloc _)).mono ?_
      rw [e7.out]
      rintro e w3 ⟨A7, c7, rfl, hs7, hb⟩
      clear qa0 qa1 qa2 qa3 qb0 qb1 qb2 qb3 qo0 qo1 qo2 qo3 fo0 fo1 fo2 fo3
      have Ka' : Hid (Cf w3 w.heap.size n1 A1 l1.length c1 n2 A2 l2.length c2) := Cf.keep (Cf.keep Ka.out (blw1 _ _)) hb
      have Kb' : Hid (Cf w3 (w.heap.size + 1) n3 A3 l3.length c3 n4 A4 l4.length c4) := Cf.keep (Cf.keep Kb.out (blw1 _ _)) hb
      have Fo' : Hid (Ff w3 (w.heap.size + 1 + 1)) := Ff.keep (Ff.keep Fo.out Ko.out (blw1 _ _)) (Cf.keep Ko.out (blw1 _ _)) hb
      have Ko' : Hid (Cf w3 (w.heap.size + 1 + 1) false none 0 0 false none 0 0) := Cf.keep (Cf.keep Ko.out (blw1 _ _)) hb
      have K5' : Hid (Cw w3 w1.heap.size n5 A5 l5.length c5) := Cw.keep (Cw.keep K5.out (blw1 _ _)) hb
      have K6' : Hid (Cw w3 w2.heap.size n6 A6 l6.length c6) := Cw.keep (Cw.fresh (by simp) _ _ _ _ _) hb
      have S1' : Hid (Sl w3 A1 l1 c1) := Sl.below (S1.out.alloc _) hb
      have S2' : Hid (Sl w3 A2 l2 c2) := Sl.below (S2.out.alloc _) hb
      have S3' : Hid (Sl w3 A3 l3 c3) := Sl.below (S3.out.alloc _) hb
      have S4' : Hid (Sl w3 A4 l4 c4) := Sl.below (S4.out.alloc _) hb
      have S5' : Hid (Sl w3 A5 l5 c5) := Sl.below (S5.out.alloc _) hb
      have S6' : Hid (Sl w3 A6 l6 c6) := Sl.below (S6.out.alloc _) hb
      have B' : Hid (Below w.heap.size w w3) := below_mono (below_mono B.out (blw1 _ _)) hb
      clear hb Ka Kb Fo Ko K5 S1 S2 S3 S4 S5 S6 B
      have Ka := Ka'
      have Kb := Kb'
      have Fo := Fo'
      have Ko := Ko'
      have K5 := K5'
      have K6 := K6'
      have S1 := S1'
      have S2 := S2'
      have S3 := S3'
      have S4 := S4'
      have S5 := S5'
      have S6 := S6'
      have B := B'
      clear Ka' Kb' Fo' Ko' K5' K6' S1' S2' S3' S4' S5' S6' B'
      (try dsimp only at hs7)
      (try dsimp only)
      have S7 : Hid (Sl w3 A7 l7 c7) := hs7
      clear hs7
      obtain ⟨qa0, qa1, qa2, qa3⟩ := Ka.out
      obtain ⟨qb0, qb1, qb2, qb3⟩ := Kb.out
      obtain ⟨qo0, qo1, qo2, qo3⟩ := Ko.out
      obtain ⟨fo0, fo1, fo2, fo3⟩ := Fo.out
      obtain ⟨q50, q51⟩ := K5.out
      obtain ⟨q60, q61⟩ := K6.out
      replace hza : w.heap.size < w3.heap.size := lt_of_cell (a := ⟨w.heap.size, 0, none⟩) Ka.out.1
      replace hzb : w.heap.size + 1 < w3.heap.size := lt_of_cell (a := ⟨w.heap.size + 1, 0, none⟩) Kb.out.1
      replace hzo : w.heap.size + 1 + 1 < w3.heap.size := lt_of_cell (a := ⟨w.heap.size + 1 + 1, 0, none⟩) Ko.out.1
      replace hz5 : w1.heap.size < w3.heap.size := lt_of_cell (a := ⟨w1.heap.size, 0, none⟩) K5.out.1
      have hz6 : w2.heap.size < w3.heap.size := lt_of_cell (a := ⟨w2.heap.size, 0, none⟩) K6.out.1
      have hka7 := hza
      have hkb7 := hzb
      have hko7 := hzo
      have hk57 := hz5
      have hk67 := hz6
      have hz9 : w.heap.size + 1 + 1 < w3.heap.size := by omega
      go_wp2
      exact bodyPost_ret (v := .tuple #[.agg #[.bool false, .slice none 0 0, .bool false, .slice none 0 0], .int .i64 16]) (by simp [results, Try.results48, go_sem, qo0, qo1, qo2, qo3, hz9]) rfl (FRes.alloc (fres_store4 (r := zF) 16 (Sl.nil _ none 0) (Sl.nil _ none 0) Ko.out B.out (by omega) _ _ _ _) _)
    | true =>
      have v6 : VZ n6 l6 (x2 * y1) ∧ k6 = 0 := by
        rw [mulS_z h3 h2 (fitB_iff.1 f1)] at r6
        obtain ⟨e1, e2⟩ := Prod.mk.inj r6
        exact ⟨vz_mk e1.symm (fitB_iff.1 f1), e2.symm⟩
      obtain ⟨v6, rfl⟩ := v6
      cases f2 : fitB (y1 * y2) with
      | false =>
        rw [if_neg (by simp)]
        obtain rfl : k7 = 16 := by
          rw [mulS_out h2 h4, outZ_bad (fun e => by rw [fitB_iff.2 e] at f2; cases f2)] at r7
          exact (Prod.mk.inj r7).2.symm
        clear h1 h2 h3 h4 r5 r6 r7 hden f0 f1 f2 v5 v6
        go_enter Try.func48, Try.ntmps48
        go_wp2_with fail
        refine (rmul_any _ _ _ _ _ _ _ _ _ (((S1.out.alloc _).alloc _).alloc _) (((S4.out.alloc _).alloc _).alloc _)).mono ?_
        rw [e5.out]
        rintro e w1 ⟨A5, c5, rfl, hs5, hb⟩
        have Ka' : Hid (Cf w1 w.heap.size n1 A1 l1.length c1 n2 A2 l2.length c2) := Cf.keep (Cf.keep (Cf.keep (Cf.fresh (by simp) _ _ _ _ _ _ _ _ _) (blw1 _ _)) (blw1 _ _)) hb
        have Kb' : Hid (Cf w1 (w.heap.size + 1) n3 A3 l3.length c3 n4 A4 l4.length c4) := Cf.keep (Cf.keep (Cf.fresh (by simp) _ _ _ _ _ _ _ _ _) (blw1 _ _)) hb
        have Fo' : Hid (Ff w1 (w.heap.size + 1 + 1)) := Ff.keep (Ff.fresh (by simp) _ _) (Cf.fresh (by simp) _ _ _ _ _ _ _ _ _) hb
        have Ko' : Hid (Cf w1 (w.heap.size + 1 + 1) false none 0 0 false none 0 0) := Cf.keep (Cf.fresh (by simp) _ _ _ _ _ _ _ _ _) hb
        have S1' : Hid (Sl w1 A1 l1 c1) := Sl.below (((S1.out.alloc _).alloc _).alloc _) hb
        have S2' : Hid (Sl w1 A2 l2 c2) := Sl.below (((S2.out.alloc _).alloc _).alloc _) hb
        have S3' : Hid (Sl w1 A3 l3 c3) := Sl.below (((S3.out.alloc _).alloc _).alloc _) hb
        have S4' : Hid (Sl w1 A4 l4 c4) := Sl.below (((S4.out.alloc _).alloc _).alloc _) hb
        have B' : Hid (Below w.heap.size w w1) := below_mono (below_mono (below_mono (below_mono B.out (blw1 _ _)) (blw1 _ _)) (blw1 _ _)) hb
        clear hb S1 S2 S3 S4 B
        have Ka := Ka'
        have Kb := Kb'
        have Fo := Fo'
        have Ko := Ko'
        have S1 := S1'
        have S2 := S2'
        have S3 := S3'
        have S4 := S4'
        have B := B'
        clear Ka' Kb' Fo' Ko' S1' S2' S3' S4' B'
        (try dsimp only at hs5)
        (try dsimp only)
        have S5 : Hid (Sl w1 A5 l5 c5) := hs5
        clear hs5
        obtain ⟨qa0, qa1, qa2, qa3⟩ := Ka.out
        obtain ⟨qb0, qb1, qb2, qb3⟩ := Kb.out
        obtain ⟨qo0, qo1, qo2, qo3⟩ := Ko.out
        obtain ⟨fo0, fo1, fo2, fo3⟩ := Fo.out
        have hza : w.heap.size < w1.heap.size := lt_of_cell (a := ⟨w.heap.size, 0, none⟩) Ka.out.1
        have hzb : w.heap.size + 1 < w1.heap.size := lt_of_cell (a := ⟨w.heap.size + 1, 0, none⟩) Kb.out.1
        have hzo : w.heap.size + 1 + 1 < w1.heap.size := lt_of_cell (a := ⟨w.heap.size + 1 + 1, 0, none⟩) Ko.out.1
        have hka5 := hza
        have hkb5 := hzb
        have hko5 := hzo
        go_wp2_with fail
        refine (rmul_any _ _ _ _ _ _ _ _ _ (S3.out.alloc _) (S2.out.alloc _)).mono ?_
        rw [e6.out]
        rintro e w2 ⟨A6, c6, rfl, hs6, hb⟩
        clear qa0 qa1 qa2 qa3 qb0 qb1 qb2 qb3 qo0 qo1 qo2 qo3 fo0 fo1 fo2 fo3
        have Ka' : Hid (Cf w2 w.heap.size n1 A1 l1.length c1 n2 A2 l2.length c2) := Cf.keep (Cf.keep Ka.out (blw1 _ _)) hb
        have Kb' : Hid (Cf w2 (w.heap.size + 1) n3 A3 l3.length c3 n4 A4 l4.length c4) := Cf.keep (Cf.keep Kb.out (blw1 _ _)) hb
        have Fo' : Hid (Ff w2 (w.heap.size + 1 + 1)) := Ff.keep (Ff.keep Fo.out Ko.out (blw1 _ _)) (Cf.keep Ko.out (blw1 _ _)) hb
        have Ko' : Hid (Cf w2 (w.heap.size + 1 + 1) false none 0 0 false none 0 0) := Cf.keep (Cf.keep Ko.out (blw1 _ _)) hb
        have K5' : Hid (Cw w2 w1.heap.size n5 A5 l5.length c5) := Cw.keep (Cw.fresh (by simp) _ _ _ _ _) hb
        have S1' : Hid (Sl w2 A1 l1 c1) := Sl.below (S1.out.alloc _) hb
        have S2' : Hid (Sl w2 A2 l2 c2) := Sl.below (S2.out.alloc _) hb
        have S3' : Hid (Sl w2 A3 l3 c3) := Sl.below (S3.out.alloc _) hb
        have S4' : Hid (Sl w2 A4 l4 c4) := Sl.below (S4.out.alloc _) hb
        have S5' : Hid (Sl w2 A5 l5 c5) := Sl.below (S5.out.alloc _) hb
        have B' : Hid (Below w.heap.size w w2) := below_mono (below_mono B.out (blw1 _ _)) hb
        clear hb Ka Kb Fo Ko S1 S2 S3 S4 S5 B
        have Ka := Ka'
        have Kb := Kb'
        have Fo := Fo'
        have Ko := Ko'
        have K5 := K5'
        have S1 := S1'
        have S2 := S2'
        have S3 := S3'
        have S4 := S4'
        have S5 := S5'
        have B := B'
        clear Ka' Kb' Fo' Ko' K5' S1' S2' S3' S4' S5' B'
        (try dsimp only at hs6)
        (try dsimp only)
        have S6 : Hid (Sl w2 A6 l6 c6) := hs6
        clear hs6
        obtain ⟨qa0, qa1, qa2, qa3⟩ := Ka.out
        obtain ⟨qb0, qb1, qb2, qb3⟩ := Kb.out
        obtain ⟨qo0, qo1, qo2, qo3⟩ := Ko.out
        obtain ⟨fo0, fo1, fo2, fo3⟩ := Fo.out
        replace hza : w.heap.size < w2.heap.size := lt_of_cell (a := ⟨w.heap.size, 0, none⟩) Ka.out.1
        replace hzb : w.heap.size + 1 < w2.heap.size := lt_of_cell (a := ⟨w.heap.size + 1, 0, none⟩) Kb.out.1
        replace hzo : w.heap.size + 1 + 1 < w2.heap.size := lt_of_cell (a := ⟨w.heap.size + 1 + 1, 0, none⟩) Ko.out.1
        have hz5 : w1.heap.size < w2.heap.size := lt_of_cell (a := ⟨w1.heap.size, 0, none⟩) K5.out.1
        have hka6 := hza
        have hkb6 := hzb
        have hko6 := hzo
        have hk56 := hz5
        go_wp2_with fail
        refine (rmul_any _ _ _ _ _ _ _ _ _ (S2.out.alloc _) (S4.out.alloc _)).mono ?_
        rw [e7.out]
        rintro e w3 ⟨A7, c7, rfl, hs7, hb⟩
        clear qa0 qa1 qa2 qa3 qb0 qb1 qb2 qb3 qo0 qo1 qo2 qo3 fo0 fo1 fo2 fo3
        have Ka' : Hid (Cf w3 w.heap.size n1 A1 l1.length c1 n2 A2 l2.length c2) := Cf.keep (Cf.keep Ka.out (blw1 _ _)) hb
        have Kb' : Hid (Cf w3 (w.heap.size + 1) n3 A3 l3.length c3 n4 A4 l4.length c4) := Cf.keep (Cf.keep Kb.out (blw1 _ _)) hb
        have Fo' : Hid (Ff w3 (w.heap.size + 1 + 1)) := Ff.keep (Ff.keep Fo.out Ko.out (blw1 _ _)) (Cf.keep Ko.out (blw1 _ _)) hb
        have Ko' : Hid (Cf w3 (w.heap.size + 1 + 1) false none 0 0 false none 0 0) := Cf.keep (Cf.keep Ko.out (blw1 _ _)) hb
        have K5' : Hid (Cw w3 w1.heap.size n5 A5 l5.length c5) := Cw.keep (Cw.keep K5.out (blw1 _ _)) hb
        have K6' : Hid (Cw w3 w2.heap.size n6 A6 l6.length c6) := Cw.keep (Cw.fresh (by simp) _ _ _ _ _) hb
        have S1' : Hid (Sl w3 A1 l1 c1) := Sl.below (S1.out.alloc _) hb
        have S2' : Hid (Sl w3 A2 l2 c2) := Sl.below (S2.out.alloc _) hb
        have S3' : Hid (Sl w3 A3 l3 c3) := Sl.below (S3.out.alloc _) hb
        have S4' : Hid (Sl w3 A4 l4 c4) := Sl.below (S4.out.alloc _) hb
        have S5' : Hid (Sl w3 A5 l5 c5) := Sl.below (S5.out.alloc _) hb
        have S6' : Hid (Sl w3 A6 l6 c6) := Sl.below (S6.out.alloc _) hb
        have B' : Hid (Below w.heap.size w w3) := below_mono (below_mono B.out (blw1 _ _)) hb
        clear hb Ka Kb Fo Ko K5 S1 S2 S3 S4 S5 S6 B
        have Ka := Ka'
        have Kb := Kb'
        have Fo := Fo'
        have Ko := Ko'
        have K5 := K5'
        have K6 := K6'
        have S1 := S1'
        have S2 := S2'
        have S3 := S3'
        have S4 := S4'
        have S5 := S5'
        have S6 := S6'
        have B := B'
        clear Ka' Kb' Fo' Ko' K5' K6' S1' S2' S3' S4' S5' S6' B'
        (try dsimp only at hs7)
        (try dsimp only)
        have S7 : Hid (Sl w3 A7 l7 c7) := hs7
        clear hs7
        obtain ⟨qa0, qa1, qa2, qa3⟩ := Ka.out
        obtain ⟨qb0, qb1, qb2, qb3⟩ := Kb.out
        obtain ⟨qo0, qo1, qo2, qo3⟩ := Ko.out
        obtain ⟨fo0, fo1, fo2, fo3⟩ := Fo.out
        obtain ⟨q50, q51⟩ := K5.out
        obtain ⟨q60, q61⟩ := K6.out
        replace hza : w.heap.size < w3.heap.size := lt_of_cell (a := ⟨w.heap.size, 0, none⟩) Ka.out.1
        replace hzb : w.heap.size + 1 < w3.heap.size := lt_of_cell (a := ⟨w.heap.size + 1, 0, none⟩) Kb.out.1
        replace hzo : w.heap.size + 1 + 1 < w3.heap.size := lt_of_cell (a := ⟨w.heap.size + 1 + 1, 0, none⟩) Ko.out.1
        replace hz5 : w1.heap.size < w3.heap.size := lt_of_cell (a := ⟨w1.heap.size, 0, none⟩) K5.out.1
        have hz6 : w2.heap.size < w3.heap.size := lt_of_cell (a := ⟨w2.heap.size, 0, none⟩) K6.out.1
        have hka7 := hza
        have hkb7 := hzb
        have hko7 := hzo
        have hk57 := hz5
        have hk67 := hz6
        have hz9 : w.heap.size + 1 + 1 < w3.heap.size := by omega
        go_wp2
        exact bodyPost_ret (v := .tuple #[.agg #[.bool false, .slice none 0 0, .bool false, .slice none 0 0], .int .i64 16]) (by simp [results, Try.results48, go_sem, qo0, qo1, qo2, qo3, hz9]) rfl (FRes.alloc (fres_store4 (r := zF) 16 (Sl.nil _ none 0) (Sl.nil _ none 0) Ko.out B.out (by omega) _ _ _ _) _)
      | true =>
        have v7 : VZ n7 l7 (y1 * y2) ∧ k7 = 0 := by
          rw [mulS_z h2 h4 (fitB_iff.1 f2)] at r7
          obtain ⟨e1, e2⟩ := Prod.mk.inj r7
          exact ⟨vz_mk e1.symm (fitB_iff.1 f2), e2.symm⟩
        obtain ⟨v7, rfl⟩ := v7
        obtain ⟨⟨⟨n8, l8⟩, k8⟩, r8⟩ : ∃ r, addS n5 l5 n6 l6 = r := ⟨_, rfl⟩
        have e8 := Lib.hid r8
        cases f3 : fitB (x1 * y2 + x2 * y1) with
        | false =>
          rw [if_neg (by simp)]
          obtain rfl : k8 = 16 := by
            rw [addS_out v5 v6, outZ_bad (fun e => by rw [fitB_iff.2 e] at f3; cases f3)] at r8
            exact (Prod.mk.inj r8).2.symm
          clear h1 h2 h3 h4 r5 r6 r7 hden f0 f1 f2 f3 r8 v5 v6 v7
          go_enter Try.func48, Try.ntmps48
          go_wp2_with fail
          refine (rmul_any _ _ _ _ _ _ _ _ _ (((S1.out.alloc _).alloc _).alloc _) (((S4.out.alloc _).alloc _).alloc _)).mono ?_
          rw [e5.out]
          rintro e w1 ⟨A5, c5, rfl, hs5, hb⟩
          have Ka' : Hid (Cf w1 w.heap.size n1 A1 l1.length c1 n2 A2 l2.length c2) := Cf.keep (Cf.keep (Cf.keep (Cf.fresh (by simp) _ _ _ _ _ _ _ _ _) (blw1 _ _)) (blw1 _ _)) hb
          have Kb' : Hid (Cf w1 (w.heap.size + 1) n3 A3 l3.length c3 n4 A4 l4.length c4) := Cf.keep (Cf.keep (Cf.fresh (by simp) _ _ _ _ _ _ _ _ _) (blw1 _ _)) hb
          have Fo' : Hid (Ff w1 (w.heap.size + 1 + 1)) := Ff.keep (Ff.fresh (by simp) _ _) (Cf.fresh (by simp) _ _ _ _ _ _ _ _ _) hb
          have Ko' : Hid (Cf w1 (w.heap.size + 1 + 1) false none 0 0 false none 0 0) := Cf.keep (Cf.fresh (by simp) _ _ _ _ _ _ _ _ _) hb
          have S1' : Hid (Sl w1 A1 l1 c1) := Sl.below (((S1.out.alloc _).alloc _).alloc _) hb
          have S2' : Hid (Sl w1 A2 l2 c2) := Sl.below (((S2.out.alloc _).alloc _).alloc _) hb
          have S3' : Hid (Sl w1 A3 l3 c3) := Sl.below (((S3.out.alloc _).alloc _).alloc _) hb
          have S4' : Hid (Sl w1 A4 l4 c4) := Sl.below (((S4.out.alloc _).alloc _).alloc _) hb
          have B' : Hid (Below w.heap.size w w1) := below_mono (below_mono (below_mono (below_mono B.out (blw1 _ _)) (blw1 _ _)) (blw1 _ _)) hb
          clear hb S1 S2 S3 S4 B
          have Ka := Ka'
          have Kb := Kb'
          have Fo := Fo'
          have Ko := Ko'
          have S1 := S1'
          have S2 := S2'
          have S3 := S3'
          have S4 := S4'
          have B := B'
          clear Ka' Kb' Fo' Ko' S1' S2' S3' S4' B'
          (try dsimp only at hs5)
          (try dsimp only)
          have S5 : Hid (Sl w1 A5 l5 c5) := hs5
          clear hs5
          obtain ⟨qa0, qa1, qa2, qa3⟩ := Ka.out
          obtain ⟨qb0, qb1, qb2, qb3⟩ := Kb.out
          obtain ⟨qo0, qo1, qo2, qo3⟩ := Ko.out
          obtain ⟨fo0, fo1, fo2, fo3⟩ := Fo.out
          have hza : w.heap.size < w1.heap.size := lt_of_cell (a := ⟨w.heap.size, 0, none⟩) Ka.out.1
          have hzb : w.heap.size + 1 < w1.heap.size := lt_of_cell (a := ⟨w.heap.size + 1, 0, none⟩) Kb.out.1
          have hzo : w.heap.size + 1 + 1 < w1.heap.size := lt_of_cell (a := ⟨w.heap.size + 1 + 1, 0, none⟩) Ko.out.1
          have hka5 := hza
          have hkb5 := hzb
          have hko5 := hzo
          go_wp2_with fail
          refine (rmul_any _ _ _ _ _ _ _ _ _ (S3.out.alloc _) (S2.out.alloc _)).mono ?_
          rw [e6.out]
          rintro e w2 ⟨A6, c6, rfl, hs6, hb⟩
          clear qa0 qa1 qa2 qa3 qb0 qb1 qb2 qb3 qo0 qo1 qo2 qo3 fo0 fo1 fo2 fo3
          have Ka' : Hid (Cf w2 w.heap.size n1 A1 l1.length c1 n2 A2 l2.length c2) := Cf.keep (Cf.keep Ka.out (blw1 _ _)) hb
          have Kb' : Hid (Cf w2 (w.heap.size + 1) n3 A3 l3.length c3 n4 A4 l4.length c4) := Cf.keep (Cf.keep Kb.out (blw1 _ _)) hb
          have Fo' : Hid (Ff w2 (w.heap.size + 1 + 1)) := Ff.keep (Ff.keep Fo.out Ko.out (blw1 _ _)) (Cf.keep Ko.out (blw1 _ _)) hb
          have Ko' : Hid (Cf w2 (w.heap.size + 1 + 1) false none 0 0 false none 0 0) := Cf.keep (Cf.keep Ko.out (blw1 _ _)) hb
          have K5' : Hid (Cw w2 w1.heap.size n5 A5 l5.length c5) := Cw.keep (Cw.fresh (by simp) _ _ _ _ _) hb
          have S1' : Hid (Sl w2 A1 l1 c1) := Sl.below (S1.out.alloc _) hb
          have S2' : Hid (Sl w2 A2 l2 c2) := Sl.below (S2.out.alloc _) hb
          have S3' : Hid (Sl w2 A3 l3 c3) := Sl.below (S3.out.alloc _) hb
          have S4' : Hid (Sl w2 A4 l4 c4) := Sl.below (S4.out.alloc _) hb
          have S5' : Hid (Sl w2 A5 l5 c5) := Sl.below (S5.out.alloc _) hb
          have B' : Hid (Below w.heap.size w w2) := below_mono (below_mono B.out (blw1 _ _)) hb
          clear hb Ka Kb Fo Ko S1 S2 S3 S4 S5 B
          have Ka := Ka'
          have Kb := Kb'
          have Fo := Fo'
          have Ko := Ko'
          have K5 := K5'
          have S1 := S1'
          have S2 := S2'
          have S3 := S3'
          have S4 := S4'
          have S5 := S5'
          have B := B'
          clear Ka' Kb' Fo' Ko' K5' S1' S2' S3' S4' S5' B'
          (try dsimp only at hs6)
          (try dsimp only)
          have S6 : Hid (Sl w2 A6 l6 c6) := hs6
          clear hs6
          obtain ⟨qa0, qa1, qa2, qa3⟩ := Ka.out
          obtain ⟨qb0, qb1, qb2, qb3⟩ := Kb.out
          obtain ⟨qo0, qo1, qo2, qo3⟩ := Ko.out
          obtain ⟨fo0, fo1, fo2, fo3⟩ := Fo.out
          replace hza : w.heap.size < w2.heap.size := lt_of_cell (a := ⟨w.heap.size, 0, none⟩) Ka.out.1
          replace hzb : w.heap.size + 1 < w2.heap.size := lt_of_cell (a := ⟨w.heap.size + 1, 0, none⟩) Kb.out.1
          replace hzo : w.heap.size + 1 + 1 < w2.heap.size := lt_of_cell (a := ⟨w.heap.size + 1 + 1, 0, none⟩) Ko.out.1
          have hz5 : w1.heap.size < w2.heap.size := lt_of_cell (a := ⟨w1.heap.size, 0, none⟩) K5.out.1
          have hka6 := hza
          have hkb6 := hzb
          have hko6 := hzo
          have hk56 := hz5
          go_wp2_with fail
          refine (rmul_any _ _ _ _ _ _ _ _ _ (S2.out.alloc _) (S4.out.alloc _)).mono ?_
          rw [e7.out]
          rintro e w3 ⟨A7, c7, rfl, hs7, hb⟩
          clear qa0 qa1 qa2 qa3 qb0 qb1 qb2 qb3 qo0 qo1 qo2 qo3 fo0 fo1 fo2 fo3
          have Ka' : Hid (Cf w3 w.heap.size n1 A1 l1.length c1 n2 A2 l2.length c2) := Cf.keep (Cf.keep Ka.out (blw1 _ _)) hb
          have Kb' : Hid (Cf w3 (w.heap.size + 1) n3 A3 l3.length c3 n4 A4 l4.length c4) := Cf.keep (Cf.keep Kb.out (blw1 _ _)) hb
          have Fo' : Hid (Ff w3 (w.heap.size + 1 + 1)) := Ff.keep (Ff.keep Fo.out Ko.out (blw1 _ _)) (Cf.keep Ko.out (blw1 _ _)) hb
          have Ko' : Hid (Cf w3 (w.heap.size + 1 + 1) false none 0 0 false none 0 0) := Cf.keep (Cf.keep Ko.out (blw1 _ _)) hb
          have K5' : Hid (Cw w3 w1.heap.size n5 A5 l5.length c5) := Cw.keep (Cw.keep K5.out (blw1 _ _)) hb
          have K6' : Hid (Cw w3 w2.heap.size n6 A6 l6.length c6) := Cw.keep (Cw.fresh (by simp) _ _ _ _ _) hb
          have S1' : Hid (Sl w3 A1 l1 c1) := Sl.below (S1.out.alloc _) hb
          have S2' : Hid (Sl w3 A2 l2 c2) := Sl.below (S2.out.alloc _) hb
          have S3' : Hid (Sl w3 A3 l3 c3) := Sl.below (S3.out.alloc _) hb
          have S4' : Hid (Sl w3 A4 l4 c4) := Sl.below (S4.out.alloc _) hb
          have S5' : Hid (Sl w3 A5 l5 c5) := Sl.below (S5.out.alloc _) hb
          have S6' : Hid (Sl w3 A6 l6 c6) := Sl.below (S6.out.alloc _) hb
          have B' : Hid (Below w.heap.size w w3) := below_mono (below_mono B.out (blw1 _ _)) hb
          clear hb Ka Kb Fo Ko K5 S1 S2 S3 S4 S5 S6 B
          have Ka := Ka'
          have Kb := Kb'
          have Fo := Fo'
          have Ko := Ko'
          have K5 := K5'
          have K6 := K6'
          have S1 := S1'
          have S2 := S2'
          have S3 := S3'
          have S4 := S4'
          have S5 := S5'
          have S6 := S6'
          have B := B'
          clear Ka' Kb' Fo' Ko' K5' K6' S1' S2' S3' S4' S5' S6' B'
          (try dsimp only at hs7)
          (try dsimp only)
          have S7 : Hid (Sl w3 A7 l7 c7) := hs7
          clear hs7
          obtain ⟨qa0, qa1, qa2, qa3⟩ := Ka.out
          obtain ⟨qb0, qb1, qb2, qb3⟩ := Kb.out
          obtain ⟨qo0, qo1, qo2, qo3⟩ := Ko.out
          obtain ⟨fo0, fo1, fo2, fo3⟩ := Fo.out
          obtain ⟨q50, q51⟩ := K5.out
          obtain ⟨q60, q61⟩ := K6.out
          replace hza : w.heap.size < w3.heap.size := lt_of_cell (a := ⟨w.heap.size, 0, none⟩) Ka.out.1
          replace hzb : w.heap.size + 1 < w3.heap.size := lt_of_cell (a := ⟨w.heap.size + 1, 0, none⟩) Kb.out.1
          replace hzo : w.heap.size + 1 + 1 < w3.heap.size := lt_of_cell (a := ⟨w.heap.size + 1 + 1, 0, none⟩) Ko.out.1
          replace hz5 : w1.heap.size < w3.heap.size := lt_of_cell (a := ⟨w1.heap.size, 0, none⟩) K5.out.1
          have hz6 : w2.heap.size < w3.heap.size := lt_of_cell (a := ⟨w2.heap.size, 0, none⟩) K6.out.1
          have hka7 := hza
          have hkb7 := hzb
          have hko7 := hzo
          have hk57 := hz5
          have hk67 := hz6
          go_wp2_with fail
          refine (radd_any _ _ _ _ _ _ _ _ _ (S5.out.alloc _) (S6.out.alloc _)).mono ?_
          rw [e8.out]
          rintro e w4 ⟨A8, c8, rfl, hs8, hb⟩
          clear qa0 qa1 qa2 qa3 qb0 qb1 qb2 qb3 qo0 qo1 qo2 qo3 fo0 fo1 fo2 fo3 q50 q51 q60 q61
          have Ka' : Hid (Cf w4 w.heap.size n1 A1 l1.length c1 n2 A2 l2.length c2) := Cf.keep (Cf.keep Ka.out (blw1 _ _)) hb
          have Kb' : Hid (Cf w4 (w.heap.size + 1) n3 A3 l3.length c3 n4 A4 l4.length c4) := Cf.keep (Cf.keep Kb.out (blw1 _ _)) hb
          have Fo' : Hid (Ff w4 (w.heap.size + 1 + 1)) := Ff.keep (Ff.keep Fo.out Ko.out (blw1 _ _)) (Cf.keep Ko.out (blw1 _ _)) hb
          have Ko' : Hid (Cf w4 (w.heap.size + 1 + 1) false none 0 0 false none 0 0) := Cf.keep (Cf.keep Ko.out (blw1 _ _)) hb
          have K5' : Hid (Cw w4 w1.heap.size n5 A5 l5.length c5) := Cw.keep (Cw.keep K5.out (blw1 _ _)) hb
          have K6' : Hid (Cw w4 w2.heap.size n6 A6 l6.length c6) := Cw.keep (Cw.keep K6.out (blw1 _ _)) hb
          have K7' : Hid (Cw w4 w3.heap.size n7 A7 l7.length c7) := Cw.keep (Cw.fresh (by simp) _ _ _ _ _) hb
          have S1' : Hid (Sl w4 A1 l1 c1) := Sl.below (S1.out.alloc _) hb
          have S2' : Hid (Sl w4 A2 l2 c2) := Sl.below (S2.out.alloc _) hb
          have S3' : Hid (Sl w4 A3 l3 c3) := Sl.below (S3.out.alloc _) hb
          have S4' : Hid (Sl w4 A4 l4 c4) := Sl.below (S4.out.alloc _) hb
          have S5' : Hid (Sl w4 A5 l5 c5) := Sl.below (S5.out.alloc _) hb
          have S6' : Hid (Sl w4 A6 l6 c6) := Sl.below (S6.out.alloc _) hb
          have S7' : Hid (Sl w4 A7 l7 c7) := Sl.below (S7.out.alloc _) hb
          have B' : Hid (Below w.heap.size w w4) := below_mono (below_mono B.out (blw1 _ _)) hb
          clear hb Ka Kb Fo Ko K5 K6 S1 S2 S3 S4 S5 S6 S7 B
          have Ka := Ka'
          have Kb := Kb'
          have Fo := Fo'
          have Ko := Ko'
          have K5 := K5'
          have K6 := K6'
          have K7 := K7'
          have S1 := S1'
          have S2 := S2'
          have S3 := S3'
          have S4 := S4'
          have S5 := S5'
          have S6 := S6'
          have S7 := S7'
          have B := B'
          clear Ka' Kb' Fo' Ko' K5' K6' K7' S1' S2' S3' S4' S5' S6' S7' B'
          (try dsimp only at hs8)
          (try dsimp only)
          have S8 : Hid (Sl w4 A8 l8 c8) := hs8
          clear hs8
          obtain ⟨qa0, qa1, qa2, qa3⟩ := Ka.out
          obtain ⟨qb0, qb1, qb2, qb3⟩ := Kb.out
          obtain ⟨qo0, qo1, qo2, qo3⟩ := Ko.out
          obtain ⟨fo0, fo1, fo2, fo3⟩ := Fo.out
          obtain ⟨q50, q51⟩ := K5.out
          obtain ⟨q60, q61⟩ := K6.out
          obtain ⟨q70, q71⟩ := K7.out
          replace hza : w.heap.size < w4.heap.size := lt_of_cell (a := ⟨w.heap.size, 0, none⟩) Ka.out.1
          replace hzb : w.heap.size + 1 < w4.heap.size := lt_of_cell (a := ⟨w.heap.size + 1, 0, none⟩) Kb.out.1
          replace hzo : w.heap.size + 1 + 1 < w4.heap.size := lt_of_cell (a := ⟨w.heap.size + 1 + 1, 0, none⟩) Ko.out.1
          replace hz5 : w1.heap.size < w4.heap.size := lt_of_cell (a := ⟨w1.heap.size, 0, none⟩) K5.out.1
          replace hz6 : w2.heap.size < w4.heap.size := lt_of_cell (a := ⟨w2.heap.size, 0, none⟩) K6.out.1
          have hz7 : w3.heap.size < w4.heap.size := lt_of_cell (a := ⟨w3.heap.size, 0, none⟩) K7.out.1
          have hka8 := hza
          have hkb8 := hzb
          have hko8 := hzo
          have hk58 := hz5
          have hk68 := hz6
          have hk78 := hz7
          have hz9 : w.heap.size + 1 + 1 < w4.heap.size := by omega
          go_wp2
          exact bodyPost_ret (v := .tuple #[.agg #[.bool false, .slice none 0 0, .bool false, .slice none 0 0], .int .i64 16]) (by simp [results, Try.results48, go_sem, qo0, qo1, qo2, qo3, hz9]) rfl (FRes.alloc (fres_store4 (r := zF) 16 (Sl.nil _ none 0) (Sl.nil _ none 0) Ko.out B.out (by omega) _ _ _ _) _)
        | true =>
          rw [if_pos (by simp)]
          obtain ⟨v8, rfl⟩ : VZ n8 l8 (x1 * y2 + x2 * y1) ∧ k8 = 0 := by
            rw [addS_z v5 v6 (fitB_iff.1 f3)] at r8
            obtain ⟨e1, e2⟩ := Prod.mk.inj r8
            exact ⟨vz_mk e1.symm (fitB_iff.1 f3), e2.symm⟩
          obtain ⟨⟨⟨na, la⟩, ⟨nb, lb⟩⟩, hr⟩ : ∃ r, r = redZ (x1 * y2 + x2 * y1) (y1 * y2) := ⟨_, rfl⟩
          have HR : Hid (∀ W A A' c c', Sl W A l8 c → Sl W A' l7 c' → Calls Try.prog 34 #[.agg #[.bool n8, .slice A l8.length c], .agg #[.bool n7, .slice A' l7.length c']] W (FRes1 ((na, la), (nb, lb)) W)) := fun W A A' c c' a b => by rw [hr]; exact rreduced_any n8 n7 A A' l8 l7 c c' _ _ v8 v7 hden W a b
          rw [← hr]
          clear hr
          clear h1 h2 h3 h4 r5 r6 r7 hden f0 f1 f2 f3 r8 v5 v6 v7 v8
          go_enter Try.func48, Try.ntmps48
          go_wp2_with fail
          refine (rmul_any _ _ _ _ _ _ _ _ _ (((S1.out.alloc _).alloc _).alloc _) (((S4.out.alloc _).alloc _).alloc _)).mono ?_
          rw [e5.out]
          rintro e w1 ⟨A5, c5, rfl, hs5, hb⟩
          have Ka' : Hid (Cf w1 w.heap.size n1 A1 l1.length c1 n2 A2 l2.length c2) := Cf.keep (Cf.keep (Cf.keep (Cf.fresh (by simp) _ _ _ _ _ _ _ _ _) (blw1 _ _)) (blw1 _ _)) hb
          have Kb' : Hid (Cf w1 (w.heap.size + 1) n3 A3 l3.length c3 n4 A4 l4.length c4) := Cf.keep (Cf.keep (Cf.fresh (by simp) _ _ _ _ _ _ _ _ _) (blw1 _ _)) hb
          have Fo' : Hid (Ff w1 (w.heap.size + 1 + 1)) := Ff.keep (Ff.fresh (by simp) _ _) (Cf.fresh (by simp) _ _ _ _ _ _ _ _ _) hb
          have Ko' : Hid (Cf w1 (w.heap.size + 1 + 1) false none 0 0 false none 0 0) := Cf.keep (Cf.fresh (by simp) _ _ _ _ _ _ _ _ _) hb
          have S1' : Hid (Sl w1 A1 l1 c1) := Sl.below (((S1.out.alloc _).alloc _).alloc _) hb
          have S2' : Hid (Sl w1 A2 l2 c2) := Sl.below (((S2.out.alloc _).alloc _).alloc _) hb
          have S3' : Hid (Sl w1 A3 l3 c3) := Sl.below (((S3.out.alloc _).alloc _).alloc _) hb
          have S4' : Hid (Sl w1 A4 l4 c4) := Sl.below (((S4.out.alloc _).alloc _).alloc _) hb
          have B' : Hid (Below w.heap.size w w1) := below_mono (below_mono (below_mono (below_mono B.out (blw1 _ _)) (blw1 _ _)) (blw1 _ _)) hb
          clear hb S1 S2 S3 S4 B
          have Ka := Ka'
          have Kb := Kb'
          have Fo := Fo'
          have Ko := Ko'
          have S1 := S1'
          have S2 := S2'
          have S3 := S3'
          have S4 := S4'
          have B := B'
          clear Ka' Kb' Fo' Ko' S1' S2' S3' S4' B'
          (try dsimp only at hs5)
          (try dsimp only)
          have S5 : Hid (Sl w1 A5 l5 c5) := hs5
          clear hs5
          obtain ⟨qa0, qa1, qa2, qa3⟩ := Ka.out
          obtain ⟨qb0, qb1, qb2, qb3⟩ := Kb.out
          obtain ⟨qo0, qo1, qo2, qo3⟩ := Ko.out
          obtain ⟨fo0, fo1, fo2, fo3⟩ := Fo.out
          have hza : w.heap.size < w1.heap.size := lt_of_cell (a := ⟨w.heap.size, 0, none⟩) Ka.out.1
          have hzb : w.heap.size + 1 < w1.heap.size := lt_of_cell (a := ⟨w.heap.size + 1, 0, none⟩) Kb.out.1
          have hzo : w.heap.size + 1 + 1 < w1.heap.size := lt_of_cell (a := ⟨w.heap.size + 1 + 1, 0, none⟩) Ko.out.1
          have hka5 := hza
          have hkb5 := hzb
          have hko5 := hzo
          go_wp2_with fail
          refine (rmul_any _ _ _ _ _ _ _ _ _ (S3.out.alloc _) (S2.out.alloc _)).mono ?_
          rw [e6.out]
          rintro e w2 ⟨A6, c6, rfl, hs6, hb⟩
          clear qa0 qa1 qa2 qa3 qb0 qb1 qb2 qb3 qo0 qo1 qo2 qo3 fo0 fo1 fo2 fo3
          have Ka' : Hid (Cf w2 w.heap.size n1 A1 l1.length c1 n2 A2 l2.length c2) := Cf.keep (Cf.keep Ka.out (blw1 _ _)) hb
          have Kb' : Hid (Cf w2 (w.heap.size + 1) n3 A3 l3.length c3 n4 A4 l4.length c4) := Cf.keep (Cf.keep Kb.out (blw1 _ _)) hb
          have Fo' : Hid (Ff w2 (w.heap.size + 1 + 1)) := Ff.keep (Ff.keep Fo.out Ko.out (blw1 _ _)) (Cf.keep Ko.out (blw1 _ _)) hb
          have Ko' : Hid (Cf w2 (w.heap.size + 1 + 1) false none 0 0 false none 0 0) := Cf.keep (Cf.keep Ko.out (blw1 _ _)) hb
          have K5' : Hid (Cw w2 w1.heap.size n5 A5 l5.length c5) := Cw.keep (Cw.fresh (by simp) _ _ _ _ _) hb
          have S1' : Hid (Sl w2 A1 l1 c1) := Sl.below (S1.out.alloc _) hb
          have S2' : Hid (Sl w2 A2 l2 c2) := Sl.below (S2.out.alloc _) hb
          have S3' : Hid (Sl w2 A3 l3 c3) := Sl.below (S3.out.alloc _) hb
          have S4' : Hid (Sl w2 A4 l4 c4) := Sl.below (S4.out.alloc _) hb
          have S5' : Hid (Sl w2 A5 l5 c5) := Sl.below (S5.out.alloc _) hb
          have B' : Hid (Below w.heap.size w w2) := below_mono (below_mono B.out (blw1 _ _)) hb
          clear hb Ka Kb Fo Ko S1 S2 S3 S4 S5 B
          have Ka := Ka'
          have Kb := Kb'
          have Fo := Fo'
          have Ko := Ko'
          have K5 := K5'
          have S1 := S1'
          have S2 := S2'
          have S3 := S3'
          have S4 := S4'
          have S5 := S5'
          have B := B'
          clear Ka' Kb' Fo' Ko' K5' S1' S2' S3' S4' S5' B'
          (try dsimp only at hs6)
          (try dsimp only)
          have S6 : Hid (Sl w2 A6 l6 c6) := hs6
          clear hs6
          obtain ⟨qa0, qa1, qa2, qa3⟩ := Ka.out
          obtain ⟨qb0, qb1, qb2, qb3⟩ := Kb.out
          obtain ⟨qo0, qo1, qo2, qo3⟩ := Ko.out
          obtain ⟨fo0, fo1, fo2, fo3⟩ := Fo.out
          replace hza : w.heap.size < w2.heap.size := lt_of_cell (a := ⟨w.heap.size, 0, none⟩) Ka.out.1
          replace hzb : w.heap.size + 1 < w2.heap.size := lt_of_cell (a := ⟨w.heap.size + 1, 0, none⟩) Kb.out.1
          replace hzo : w.heap.size + 1 + 1 < w2.heap.size := lt_of_cell (a := ⟨w.heap.size + 1 + 1, 0, none⟩) Ko.out.1
          have hz5 : w1.heap.size < w2.heap.size := lt_of_cell (a := ⟨w1.heap.size, 0, none⟩) K5.out.1
          have hka6 := hza
          have hkb6 := hzb
          have hko6 := hzo
          have hk56 := hz5
          go_wp2_with fail
          refine (rmul_any _ _ _ _ _ _ _ _ _ (S2.out.alloc _) (S4.out.alloc _)).mono ?_
          rw [e7.out]
          rintro e w3 ⟨A7, c7, rfl, hs7, hb⟩
          clear qa0 qa1 qa2 qa3 qb0 qb1 qb2 qb3 qo0 qo1 qo2 qo3 fo0 fo1 fo2 fo3
          have Ka' : Hid (Cf w3 w.heap.size n1 A1 l1.length c1 n2 A2 l2.length c2) := Cf.keep (Cf.keep Ka.out (blw1 _ _)) hb
          have Kb' : Hid (Cf w3 (w.heap.size + 1) n3 A3 l3.length c3 n4 A4 l4.length c4) := Cf.keep (Cf.keep Kb.out (blw1 _ _)) hb
          have Fo' : Hid (Ff w3 (w.heap.size + 1 + 1)) := Ff.keep (Ff.keep Fo.out Ko.out (blw1 _ _)) (Cf.keep Ko.out (blw1 _ _)) hb
          have Ko' : Hid (Cf w3 (w.heap.size + 1 + 1) false none 0 0 false none 0 0) := Cf.keep (Cf.keep Ko.out (blw1 _ _)) hb
          have K5' : Hid (Cw w3 w1.heap.size n5 A5 l5.length c5) := Cw.keep (Cw.keep K5.out (blw1 _ _)) hb
          have K6' : Hid (Cw w3 w2.heap.size n6 A6 l6.length c6) := Cw.keep (Cw.fresh (by simp) _ _ _ _ _) hb
          have S1' : Hid (Sl w3 A1 l1 c1) := Sl.below (S1.out.alloc _) hb
          have S2' : Hid (Sl w3 A2 l2 c2) := Sl.below (S2.out.alloc _) hb
          have S3' : Hid (Sl w3 A3 l3 c3) := Sl.below (S3.out.alloc _) hb
          have S4' : Hid (Sl w3 A4 l4 c4) := Sl.below (S4.out.alloc _) hb
          have S5' : Hid (Sl w3 A5 l5 c5) := Sl.below (S5.out.alloc _) hb
          have S6' : Hid (Sl w3 A6 l6 c6) := Sl.below (S6.out.alloc _) hb
          have B' : Hid (Below w.heap.size w w3) := below_mono (below_mono B.out (blw1 _ _)) hb
          clear hb Ka Kb Fo Ko K5 S1 S2 S3 S4 S5 S6 B
          have Ka := Ka'
          have Kb := Kb'
          have Fo := Fo'
          have Ko := Ko'
          have K5 := K5'
          have K6 := K6'
          have S1 := S1'
          have S2 := S2'
          have S3 := S3'
          have S4 := S4'
          have S5 := S5'
          have S6 := S6'
          have B := B'
          clear Ka' Kb' Fo' Ko' K5' K6' S1' S2' S3' S4' S5' S6' B'
          (try dsimp only at hs7)
          (try dsimp only)
          have S7 : Hid (Sl w3 A7 l7 c7) := hs7
          clear hs7
          obtain ⟨qa0, qa1, qa2, qa3⟩ := Ka.out
          obtain ⟨qb0, qb1, qb2, qb3⟩ := Kb.out
          obtain ⟨qo0, qo1, qo2, qo3⟩ := Ko.out
          obtain ⟨fo0, fo1, fo2, fo3⟩ := Fo.out
          obtain ⟨q50, q51⟩ := K5.out
          obtain ⟨q60, q61⟩ := K6.out
          replace hza : w.heap.size < w3.heap.size := lt_of_cell (a := ⟨w.heap.size, 0, none⟩) Ka.out.1
          replace hzb : w.heap.size + 1 < w3.heap.size := lt_of_cell (a := ⟨w.heap.size + 1, 0, none⟩) Kb.out.1
          replace hzo : w.heap.size + 1 + 1 < w3.heap.size := lt_of_cell (a := ⟨w.heap.size + 1 + 1, 0, none⟩) Ko.out.1
          replace hz5 : w1.heap.size < w3.heap.size := lt_of_cell (a := ⟨w1.heap.size, 0, none⟩) K5.out.1
          have hz6 : w2.heap.size < w3.heap.size := lt_of_cell (a := ⟨w2.heap.size, 0, none⟩) K6.out.1
          have hka7 := hza
          have hkb7 := hzb
          have hko7 := hzo
          have hk57 := hz5
          have hk67 := hz6
          go_wp2_with fail
          refine (radd_any _ _ _ _ _ _ _ _ _ (S5.out.alloc _) (S6.out.alloc _)).mono ?_
          rw [e8.out]
          rintro e w4 ⟨A8, c8, rfl, hs8, hb⟩
          clear qa0 qa1 qa2 qa3 qb0 qb1 qb2 qb3 qo0 qo1 qo2 qo3 fo0 fo1 fo2 fo3 q50 q51 q60 q61
          have Ka' : Hid (Cf w4 w.heap.size n1 A1 l1.length c1 n2 A2 l2.length c2) := Cf.keep (Cf.keep Ka.out (blw1 _ _)) hb
          have Kb' : Hid (Cf w4 (w.heap.size + 1) n3 A3 l3.length c3 n4 A4 l4.length c4) := Cf.keep (Cf.keep Kb.out (blw1 _ _)) hb
          have Fo' : Hid (Ff w4 (w.heap.size + 1 + 1)) := Ff.keep (Ff.keep Fo.out Ko.out (blw1 _ _)) (Cf.keep Ko.out (blw1 _ _)) hb
          have Ko' : Hid (Cf w4 (w.heap.size + 1 + 1) false none 0 0 false none 0 0) := Cf.keep (Cf.keep Ko.out (blw1 _ _)) hb
          have K5' : Hid (Cw w4 w1.heap.size n5 A5 l5.length c5) := Cw.keep (Cw.keep K5.out (blw1 _ _)) hb
          have K6' : Hid (Cw w4 w2.heap.size n6 A6 l6.length c6) := Cw.keep (Cw.keep K6.out (blw1 _ _)) hb
          have K7' : Hid (Cw w4 w3.heap.size n7 A7 l7.length c7) := Cw.keep (Cw.fresh (by simp) _ _ _ _ _) hb
          have S1' : Hid (Sl w4 A1 l1 c1) := Sl.below (S1.out.alloc _) hb
          have S2' : Hid (Sl w4 A2 l2 c2) := Sl.below (S2.out.alloc _) hb
          have S3' : Hid (Sl w4 A3 l3 c3) := Sl.below (S3.out.alloc _) hb
          have S4' : Hid (Sl w4 A4 l4 c4) := Sl.below (S4.out.alloc _) hb
          have S5' : Hid (Sl w4 A5 l5 c5) := Sl.below (S5.out.alloc _) hb
          have S6' : Hid (Sl w4 A6 l6 c6) := Sl.below (S6.out.alloc _) hb
          have S7' : Hid (Sl w4 A7 l7 c7) := Sl.below (S7.out.alloc _) hb
          have B' : Hid (Below w.heap.size w w4) := below_mono (below_mono B.out (blw1 _ _)) hb
          clear hb Ka Kb Fo Ko K5 K6 S1 S2 S3 S4 S5 S6 S7 B
          have Ka := Ka'
          have Kb := Kb'
          have Fo := Fo'
          have Ko := Ko'
          have K5 := K5'
          have K6 := K6'
          have K7 := K7'
          have S1 := S1'
          have S2 := S2'
          have S3 := S3'
          have S4 := S4'
          have S5 := S5'
          have S6 := S6'
          have S7 := S7'
          have B := B'
          clear Ka' Kb' Fo' Ko' K5' K6' K7' S1' S2' S3' S4' S5' S6' S7' B'
          (try dsimp only at hs8)
          (try dsimp only)
          have S8 : Hid (Sl w4 A8 l8 c8) := hs8
          clear hs8
          obtain ⟨qa0, qa1, qa2, qa3⟩ := Ka.out
          obtain ⟨qb0, qb1, qb2, qb3⟩ := Kb.out
          obtain ⟨qo0, qo1, qo2, qo3⟩ := Ko.out
          obtain ⟨fo0, fo1, fo2, fo3⟩ := Fo.out
          obtain ⟨q50, q51⟩ := K5.out
          obtain ⟨q60, q61⟩ := K6.out
          obtain ⟨q70, q71⟩ := K7.out
          replace hza : w.heap.size < w4.heap.size := lt_of_cell (a := ⟨w.heap.size, 0, none⟩) Ka.out.1
          replace hzb : w.heap.size + 1 < w4.heap.size := lt_of_cell (a := ⟨w.heap.size + 1, 0, none⟩) Kb.out.1
          replace hzo : w.heap.size + 1 + 1 < w4.heap.size := lt_of_cell (a := ⟨w.heap.size + 1 + 1, 0, none⟩) Ko.out.1
          replace hz5 : w1.heap.size < w4.heap.size := lt_of_cell (a := ⟨w1.heap.size, 0, none⟩) K5.out.1
          replace hz6 : w2.heap.size < w4.heap.size := lt_of_cell (a := ⟨w2.heap.size, 0, none⟩) K6.out.1
          have hz7 : w3.heap.size < w4.heap.size := lt_of_cell (a := ⟨w3.heap.size, 0, none⟩) K7.out.1
          have hka8 := hza
          have hkb8 := hzb
          have hko8 := hzo
          have hk58 := hz5
          have hk68 := hz6
          have hk78 := hz7
          go_wp2_with fail
          refine (HR.out _ _ _ _ _ (S8.out.alloc _) (S7.out.alloc _)).mono ?_
          rintro e w5 ⟨A9, c9, B9, d9, rfl, hsx, hsy, hb⟩
          clear qa0 qa1 qa2 qa3 qb0 qb1 qb2 qb3 qo0 qo1 qo2 qo3 fo0 fo1 fo2 fo3 q50 q51 q60 q61 q70 q71
          have Ka' : Hid (Cf w5 w.heap.size n1 A1 l1.length c1 n2 A2 l2.length c2) := Cf.keep (Cf.keep Ka.out (blw1 _ _)) hb
          have Kb' : Hid (Cf w5 (w.heap.size + 1) n3 A3 l3.length c3 n4 A4 l4.length c4) := Cf.keep (Cf.keep Kb.out (blw1 _ _)) hb
          have Fo' : Hid (Ff w5 (w.heap.size + 1 + 1)) := Ff.keep (Ff.keep Fo.out Ko.out (blw1 _ _)) (Cf.keep Ko.out (blw1 _ _)) hb
          have Ko' : Hid (Cf w5 (w.heap.size + 1 + 1) false none 0 0 false none 0 0) := Cf.keep (Cf.keep Ko.out (blw1 _ _)) hb
          have K5' : Hid (Cw w5 w1.heap.size n5 A5 l5.length c5) := Cw.keep (Cw.keep K5.out (blw1 _ _)) hb
          have K6' : Hid (Cw w5 w2.heap.size n6 A6 l6.length c6) := Cw.keep (Cw.keep K6.out (blw1 _ _)) hb
          have K7' : Hid (Cw w5 w3.heap.size n7 A7 l7.length c7) := Cw.keep (Cw.keep K7.out (blw1 _ _)) hb
          have F8' : Hid (Fw w5 w4.heap.size) := Fw.keep (Fw.fresh (by simp) _ _) (Cw.fresh (by simp) _ _ _ _ _) hb
          have K8' : Hid (Cw w5 w4.heap.size n8 A8 l8.length c8) := Cw.keep (Cw.fresh (by simp) _ _ _ _ _) hb
          have S1' : Hid (Sl w5 A1 l1 c1) := Sl.below (S1.out.alloc _) hb
          have S2' : Hid (Sl w5 A2 l2 c2) := Sl.below (S2.out.alloc _) hb
          have S3' : Hid (Sl w5 A3 l3 c3) := Sl.below (S3.out.alloc _) hb
          have S4' : Hid (Sl w5 A4 l4 c4) := Sl.below (S4.out.alloc _) hb
          have S5' : Hid (Sl w5 A5 l5 c5) := Sl.below (S5.out.alloc _) hb
          have S6' : Hid (Sl w5 A6 l6 c6) := Sl.below (S6.out.alloc _) hb
          have S7' : Hid (Sl w5 A7 l7 c7) := Sl.below (S7.out.alloc _) hb
          have S8' : Hid (Sl w5 A8 l8 c8) := Sl.below (S8.out.alloc _) hb
          have B' : Hid (Below w.heap.size w w5) := below_mono (below_mono B.out (blw1 _ _)) hb
          clear hb Ka Kb Fo Ko K5 K6 K7 S1 S2 S3 S4 S5 S6 S7 S8 B
          have Ka := Ka'
          have Kb := Kb'
          have Fo := Fo'
          have Ko := Ko'
          have K5 := K5'
          have K6 := K6'
          have K7 := K7'
          have F8 := F8'
          have K8 := K8'
          have S1 := S1'
          have S2 := S2'
          have S3 := S3'
          have S4 := S4'
          have S5 := S5'
          have S6 := S6'
          have S7 := S7'
          have S8 := S8'
          have B := B'
          clear Ka' Kb' Fo' Ko' K5' K6' K7' F8' K8' S1' S2' S3' S4' S5' S6' S7' S8' B'
          (try dsimp only at hsx hsy)
          (try dsimp only)
          have Sx : Hid (Sl w5 A9 la c9) := hsx
          clear hsx
          have Sy : Hid (Sl w5 B9 lb d9) := hsy
          clear hsy
          obtain ⟨qo0, qo1, qo2, qo3⟩ := Ko.out
          obtain ⟨fo0, fo1, fo2, fo3⟩ := Fo.out
          replace hza : w.heap.size < w5.heap.size := lt_of_cell (a := ⟨w.heap.size, 0, none⟩) Ka.out.1
          replace hzb : w.heap.size + 1 < w5.heap.size := lt_of_cell (a := ⟨w.heap.size + 1, 0, none⟩) Kb.out.1
          replace hzo : w.heap.size + 1 + 1 < w5.heap.size := lt_of_cell (a := ⟨w.heap.size + 1 + 1, 0, none⟩) Ko.out.1
          replace hz5 : w1.heap.size < w5.heap.size := lt_of_cell (a := ⟨w1.heap.size, 0, none⟩) K5.out.1
          replace hz6 : w2.heap.size < w5.heap.size := lt_of_cell (a := ⟨w2.heap.size, 0, none⟩) K6.out.1
          replace hz7 : w3.heap.size < w5.heap.size := lt_of_cell (a := ⟨w3.heap.size, 0, none⟩) K7.out.1
          have hz8 : w4.heap.size < w5.heap.size := lt_of_cell (a := ⟨w4.heap.size, 0, none⟩) K8.out.1
          go_wp2_with fail
          exact bodyPost_ret (v := .tuple #[.agg #[.bool na, .slice A9 la.length c9, .bool nb, .slice B9 lb.length d9], .int .i64 0]) (by simp [results, Try.results48, go_sem, qo0, qo1, qo2, qo3]) rfl (fres_store4 (r := ((na, la), (nb, lb))) 0 Sx.out Sy.out Ko.out B.out (by omega) _ _ _ _)

set_option maxRecDepth 100000 in
set_option maxHeartbeats 2000000 in
theorem radded_sub (n1 n2 n3 n4 : Bool) (A1 A2 A3 A4 : Option Addr) (l1 l2 l3 l4 : List Nat) (c1 c2 c3 c4 : Nat) (x1 y1 x2 y2 : Int) (h1 : VZ n1 l1 x1) (h2 : VZ n2 l2 y1) (h3 : VZ n3 l3 x2) (h4 : VZ n4 l4 y2) (hden : y1 * y2 ≠ 0) (w : World) (hs1 : Sl w A1 l1 c1) (hs2 : Sl w A2 l2 c2) (hs3 : Sl w A3 l3 c3) (hs4 : Sl w A4 l4 c4) :
    Calls Try.prog 48 #[.agg #[.bool n1, .slice A1 l1.length c1, .bool n2, .slice A2 l2.length c2], .agg #[.bool n3, .slice A3 l3.length c3, .bool n4, .slice A4 l4.length c4], .bool true] w (FRes (subV x1 y1 x2 y2) w) := by
  have S1 := Lib.hid hs1
  have S2 := Lib.hid hs2
  have S3 := Lib.hid hs3
  have S4 := Lib.hid hs4
  have B : Hid (Below w.heap.size w w) := Below.refl _ _
  unfold subV outF
  obtain ⟨⟨⟨n5, l5⟩, k5⟩, r5⟩ : ∃ r, mulS n1 l1 n4 l4 = r := ⟨_, rfl⟩
  obtain ⟨⟨⟨n6, l6⟩, k6⟩, r6⟩ : ∃ r, mulS n3 l3 n2 l2 = r := ⟨_, rfl⟩
  obtain ⟨⟨⟨n7, l7⟩, k7⟩, r7⟩ : ∃ r, mulS n2 l2 n4 l4 = r := ⟨_, rfl⟩
  have e5 := Lib.hid r5
  have e6 := Lib.hid r6
  have e7 := Lib.hid r7
  clear hs1 hs2 hs3 hs4
  cases f0 : fitB (x1 * y2) with
  | false =>
    rw [if_neg (by simp)]
    obtain rfl : k5 = 16 := by
      rw [mulS_out h1 h4, outZ_bad (fun e => by rw [fitB_iff.2 e] at f0; cases f0)] at r5
      exact (Prod.mk.inj r5).2.symm
    clear h1 h2 h3 h4 r5 r6 r7 hden f0
    go_enter Try.func48, Try.ntmps48
    go_wp2_with fail
    refine (rmul_any _ _ _ _ _ _ _ _ _ (((S1.out.alloc _).alloc _).alloc _) (((S4.out.alloc _).alloc _).alloc _)).mono ?_
    rw [e5.out]
    rintro e w1 ⟨A5, c5, rfl, hs5, hb⟩
    have Ka' : Hid (Cf w1 w.heap.size n1 A1 l1.length c1 n2 A2 l2.length c2) := Cf.keep (Cf.keep (Cf.keep (Cf.fresh (by simp) _ _ _ _ _ _ _ _ _) (blw1 _ _)) (blw1 _ _)) hb
    have Kb' : Hid (Cf w1 (w.heap.size + 1) n3 A3 l3.length c3 n4 A4 l4.length c4) := Cf.keep (Cf.keep (Cf.fresh (by simp) _ _ _ _ _ _ _ _ _) (blw1 _ _)) hb
    have Fo' : Hid (Ff w1 (w.heap.size + 1 + 1)) := Ff.keep (Ff.fresh (by simp) _ _) (Cf.fresh (by simp) _ _ _ _ _ _ _ _ _) hb
    have Ko' : Hid (Cf w1 (w.heap.size + 1 + 1) false none 0 0 false none 0 0) := Cf.keep (Cf.fresh (by simp) _ _ _ _ _ _ _ _ _) hb
    have S1' : Hid (Sl w1 A1 l1 c1) := Sl.below (((S1.out.alloc _).alloc _).alloc _) hb
    have S2' : Hid (Sl w1 A2 l2 c2) := Sl.below (((S2.out.alloc _).alloc _).alloc _) hb
    have S3' : Hid (Sl w1 A3 l3 c3) := Sl.below (((S3.out.alloc _).alloc _).alloc _) hb
    have S4' : Hid (Sl w1 A4 l4 c4) := Sl.below (((S4.out.alloc _).alloc _).alloc _) hb
    have B' : Hid (Below w.heap.size w w1) := below_mono (below_mono (below_mono (below_mono B.out (blw1 _ _)) (blw1 _ _)) (blw1 _ _)) hb
    clear hb S1 S2 S3 S4 B
    have Ka := Ka'
    have Kb := Kb'
    have Fo := Fo'
    have Ko := Ko'
    have S1 := S1'
    have S2 := S2'
    have S3 := S3'
    have S4 := S4'
    have B := B'
    clear Ka' Kb' Fo' Ko' S1' S2' S3' S4' B'
    (try dsimp only at hs5)
    (try dsimp only)
    have S5 : Hid (Sl w1 A5 l5 c5) := hs5
    clear hs5
    obtain ⟨qa0, qa1, qa2, qa3⟩ := Ka.out
    obtain ⟨qb0, qb1, qb2, qb3⟩ := Kb.out
    obtain ⟨qo0, qo1, qo2, qo3⟩ := Ko.out
    obtain ⟨fo0, fo1, fo2, fo3⟩ := Fo.out
    have hza : w.heap.size < w1.heap.size := lt_of_cell (a := ⟨w.heap.size, 0, none⟩) Ka.out.1
    have hzb : w.heap.size + 1 < w1.heap.size := lt_of_cell (a := ⟨w.heap.size + 1, 0, none⟩) Kb.out.1
    have hzo : w.heap.size + 1 + 1 < w1.heap.size := lt_of_cell (a := ⟨w.heap.size + 1 + 1, 0, none⟩) Ko.out.1
    have hka5 := hza
    have hkb5 := hzb
    have hko5 := hzo
    go_wp2_with fail
    refine (rmul_any _ _ _ _ _ _ _ _ _ (S3.out.alloc _) (S2.out.alloc _)).mono ?_
    rw [e6.out]
    rintro e w2 ⟨A6, c6, rfl, hs6, hb⟩
    clear qa0 qa1 qa2 qa3 qb0 qb1 qb2 qb3 qo0 qo1 qo2 qo3 fo0 fo1 fo2 fo3
    have Ka' : Hid (Cf w2 w.heap.size n1 A1 l1.length c1 n2 A2 l2.length c2) := Cf.keep (Cf.keep Ka.out (blw1 _ _)) hb
    have Kb' : Hid (Cf w2 (w.heap.size + 1) n3 A3 l3.length c3 n4 A4 l4.length c4) := Cf.keep (Cf.keep Kb.out (blw1 _ _)) hb
    have Fo' : Hid (Ff w2 (w.heap.size + 1 + 1)) := Ff.keep (Ff.keep Fo.out Ko.out (blw1 _ _)) (Cf.keep Ko.out (blw1 _ _)) hb
    have Ko' : Hid (Cf w2 (w.heap.size + 1 + 1) false none 0 0 false none 0 0) := Cf.keep (Cf.keep Ko.out (blw1 _ _)) hb
    have K5' : Hid (Cw w2 w1.heap.size n5 A5 l5.length c5) := Cw.keep (Cw.fresh (by simp) _ _ _ _ _) hb
    have S1' : Hid (Sl w2 A1 l1 c1) := Sl.below (S1.out.alloc _) hb
    have S2' : Hid (Sl w2 A2 l2 c2) := Sl.below (S2.out.alloc _) hb
    have S3' : Hid (Sl w2 A3 l3 c3) := Sl.below (S3.out.alloc _) hb
    have S4' : Hid (Sl w2 A4 l4 c4) := Sl.below (S4.out.alloc _) hb
    have S5' : Hid (Sl w2 A5 l5 c5) := Sl.below (S5.out.alloc _) hb
    have B' : Hid (Below w.heap.size w w2) := below_mono (below_mono B.out (blw1 _ _)) hb
    clear hb Ka Kb Fo Ko S1 S2 S3 S4 S5 B
    have Ka := Ka'
    have Kb := Kb'
    have Fo := Fo'
    have Ko := Ko'
    have K5 := K5'
    have S1 := S1'
    have S2 := S2'
    have S3 := S3'
    have S4 := S4'
    have S5 := S5'
    have B := B'
    clear Ka' Kb' Fo' Ko' K5' S1' S2' S3' S4' S5' B'
    (try dsimp only at hs6)
    (try dsimp only)
    have S6 : Hid (Sl w2 A6 l6 c6) := hs6
    clear hs6
    obtain ⟨qa0, qa1, qa2, qa3⟩ := Ka.out
    obtain ⟨qb0, qb1, qb2, qb3⟩ := Kb.out
    obtain ⟨qo0, qo1, qo2, qo3⟩ := Ko.out
    obtain ⟨fo0, fo1, fo2, fo3⟩ := Fo.out
    replace hza : w.heap.size < w2.heap.size := lt_of_cell (a := ⟨w.heap.size, 0, none⟩) Ka.out.1
    replace hzb : w.heap.size + 1 < w2.heap.size := lt_of_cell (a := ⟨w.heap.size + 1, 0, none⟩) Kb.out.1
    replace hzo : w.heap.size + 1 + 1 < w2.heap.size := lt_of_cell (a := ⟨w.heap.size + 1 + 1, 0, none⟩) Ko.out.1
    have hz5 : w1.heap.size < w2.heap.size := lt_of_cell (a := ⟨w1.heap.size, 0, none⟩) K5.out.1
    have hka6 := hza
    have hkb6 := hzb
    have hko6 := hzo
    have hk56 := hz5
    go_wp2_with fail
    refine (rmul_any _ _ _ _ _ _ _ _ _ (S2.out.alloc _) (S4.out.alloc _)).mono ?_
    rw [e7.out]
    rintro e w3 ⟨A7, c7, rfl, hs7, hb⟩
    clear qa0 qa1 qa2 qa3 qb0 qb1 qb2 qb3 qo0 qo1 qo2 qo3 fo0 fo1 fo2 fo3
    have Ka' : Hid (Cf w3 w.heap.size n1 A1 l1.length c1 n2 A2 l2.length c2) := Cf.keep (Cf.keep Ka.out (blw1 _ _)) hb
    have Kb' : Hid (Cf w3 (w.heap.size + 1) n3 A3 l3.length c3 n4 A4 l4.length c4) := Cf.keep (Cf.keep Kb.out (blw1 _ _)) hb
    have Fo' : Hid (Ff w3 (w.heap.size + 1 + 1)) := Ff.keep (Ff.keep Fo.out Ko.out (blw1 _ _)) (Cf.keep Ko.out (blw1 _ _)) hb
    have Ko' : Hid (Cf w3 (w.heap.size + 1 + 1) false none 0 0 false none 0 0) := Cf.keep (Cf.keep Ko.out (blw1 _ _)) hb
    have K5' : Hid (Cw w3 w1.heap.size n5 A5 l5.length c5) := Cw.keep (Cw.keep K5.out (blw1 _ _)) hb
    have K6' : Hid (Cw w3 w2.heap.size n6 A6 l6.length c6) := Cw.keep (Cw.fresh (by simp) _ _ _ _ _) hb
    have S1' : Hid (Sl w3 A1 l1 c1) := Sl.below (S1.out.alloc _) hb
    have S2' : Hid (Sl w3 A2 l2 c2) := Sl.below (S2.out.alloc _) hb
    have S3' : Hid (Sl w3 A3 l3 c3) := Sl.below (S3.out.alloc _) hb
    have S4' : Hid (Sl w3 A4 l4 c4) := Sl.below (S4.out.alloc _) hb
    have S5' : Hid (Sl w3 A5 l5 c5) := Sl.below (S5.out.alloc _) hb
    have S6' : Hid (Sl w3 A6 l6 c6) := Sl.below (S6.out.alloc _) hb
    have B' : Hid (Below w.heap.size w w3) := below_mono (below_mono B.out (blw1 _ _)) hb
    clear hb Ka Kb Fo Ko K5 S1 S2 S3 S4 S5 S6 B
    have Ka := Ka'
    have Kb := Kb'
    have Fo := Fo'
    have Ko := Ko'
    have K5 := K5'
    have K6 := K6'
    have S1 := S1'
    have S2 := S2'
    have S3 := S3'
    have S4 := S4'
    have S5 := S5'
    have S6 := S6'
    have B := B'
    clear Ka' Kb' Fo' Ko' K5' K6' S1' S2' S3' S4' S5' S6' B'
    (try dsimp only at hs7)
    (try dsimp only)
    have S7 : Hid (Sl w3 A7 l7 c7) := hs7
    clear hs7
    obtain ⟨qa0, qa1, qa2, qa3⟩ := Ka.out
    obtain ⟨qb0, qb1, qb2, qb3⟩ := Kb.out
    obtain ⟨qo0, qo1, qo2, qo3⟩ := Ko.out
    obtain ⟨fo0, fo1, fo2, fo3⟩ := Fo.out
    obtain ⟨q50, q51⟩ := K5.out
    obtain ⟨q60, q61⟩ := K6.out
    replace hza : w.heap.size < w3.heap.size := lt_of_cell (a := ⟨w.heap.size, 0, none⟩) Ka.out.1
    replace hzb : w.heap.size + 1 < w3.heap.size := lt_of_cell (a := ⟨w.heap.size + 1, 0, none⟩) Kb.out.1
    replace hzo : w.heap.size + 1 + 1 < w3.heap.size := lt_of_cell (a := ⟨w.heap.size + 1 + 1, 0, none⟩) Ko.out.1
    replace hz5 : w1.heap.size < w3.heap.size := lt_of_cell (a := ⟨w1.heap.size, 0, none⟩) K5.out.1
    have hz6 : w2.heap.size < w3.heap.size := lt_of_cell (a := ⟨w2.heap.size, 0, none⟩) K6.out.1
    have hka7 := hza
    have hkb7 := hzb
    have hko7 := hzo
    have hk57 := hz5
    have hk67 := hz6
    have hz9 : w.heap.size + 1 + 1 < w3.heap.size := by omega
    go_wp2
    exact bodyPost_ret (v := .tuple #[.agg #[.bool false, .slice none 0 0, .bool false, .slice none 0 0], .int .i64 16]) (by simp [results, Try.results48, go_sem, qo0, qo1, qo2, qo3, hz9]) rfl (FRes.alloc (fres_store4 (r := zF) 16 (Sl.nil _ none 0) (Sl.nil _ none 0) Ko.out B.out (by omega) _ _ _ _) _)
  | true =>
    have v5 : VZ n5 l5 (x1 * y2) ∧ k5 = 0 := by
      rw [mulS_z h1 h4 (fitB_iff.1 f0)] at r5
      obtain ⟨e1, e2⟩ := Prod.mk.inj r5
      exact ⟨vz_mk e1.symm (fitB_iff.1 f0), e2.symm⟩
    obtain ⟨v5, rfl⟩ := v5
    cases f1 : fitB (x2 * y1) with
    | false =>
      rw [if_neg (by simp)]
      obtain rfl : k6 = 16 := by
        rw [mulS_out h3 h2, outZ_bad (fun e => by rw [fitB_iff.2 e] at f1; cases f1)] at r6
        exact (Prod.mk.inj r6).2.symm
      clear h1 h2 h3 h4 r5 r6 r7 hden f0 f1 v5
      go_enter Try.func48, Try.ntmps48
      go_wp2_with fail
      refine (rmul_any _ _ _ _ _ _ _ _ _ (((S1.out.alloc _).alloc _).alloc _) (((S4.out.alloc _).alloc _).alloc _)).mono ?_
      rw [e5.out]
      rintro e w1 ⟨A5, c5, rfl, hs5, hb⟩
      have Ka' : Hid (Cf w1 w.heap.size n1 A1 l1.length c1 n2 A2 l2.length c2) := Cf.keep (Cf.keep (Cf.keep (Cf.fresh (by simp) _ _ _ _ _ _ _ _ _) (blw1 _ _)) (blw1 _ _)) hb
      have Kb' : Hid (Cf w1 (w.heap.size + 1) n3 A3 l3.length c3 n4 A4 l4.length c4) := Cf.keep (Cf.keep (Cf.fresh (by simp) _ _ _ _ _ _ _ _ _) (blw1 _ _)) hb
      have Fo' : Hid (Ff w1 (w.heap.size + 1 + 1)) := Ff.keep (Ff.fresh (by simp) _ _) (Cf.fresh (by simp) _ _ _ _ _ _ _ _ _) hb
      have Ko' : Hid (Cf w1 (w.heap.size + 1 + 1) false none 0 0 false none 0 0) := Cf.keep (Cf.fresh (by simp) _ _ _ _ _ _ _ _ _) hb
      have S1' : Hid (Sl w1 A1 l1 c1) := Sl.below (((S1.out.alloc _).alloc _).alloc _) hb
      have S2' : Hid (Sl w1 A2 l2 c2) := Sl.below (((S2.out.alloc _).alloc _).alloc _) hb
      have S3' : Hid (Sl w1 A3 l3 c3) := Sl.below (((S3.out.alloc _).alloc _).alloc _) hb
      have S4' : Hid (Sl w1 A4 l4 c4) := Sl.below (((S4.out.alloc _).alloc _).alloc _) hb
      have B' : Hid (Below w.heap.size w w1) := below_mono (below_mono (below_mono (below_mono B.out (blw1 _ _)) (blw1 _ _)) (blw1 _ _)) hb
      clear hb S1 S2 S3 S4 B
      have Ka := Ka'
      have Kb := Kb'
      have Fo := Fo'
      have Ko := Ko'
      have S1 := S1'
      have S2 := S2'
      have S3 := S3'
      have S4 := S4'
      have B := B'
      clear Ka' Kb' Fo' Ko' S1' S2' S3' S4' B'
      (try dsimp only at hs5)
      (try dsimp only)
      have S5 : Hid (Sl w1 A5 l5 c5) := hs5
      clear hs5
      obtain ⟨qa0, qa1, qa2, qa3⟩ := Ka.out
      obtain ⟨qb0, qb1, qb2, qb3⟩ := Kb.out
      obtain ⟨qo0, qo1, qo2, qo3⟩ := Ko.out
      obtain ⟨fo0, fo1, fo2, fo3⟩ := Fo.out
      have hza : w.heap.size < w1.heap.size := lt_of_cell (a := ⟨w.heap.size, 0, none⟩) Ka.out.1
      have hzb : w.heap.size + 1 < w1.heap.size := lt_of_cell (a := ⟨w.heap.size + 1, 0, none⟩) Kb.out.1
      have hzo : w.heap.size + 1 + 1 < w1.heap.size := lt_of_cell (a := ⟨w.heap.size + 1 + 1, 0, none⟩) Ko.out.1
      have hka5 := hza
      have hkb5 := hzb
      have hko5 := hzo
      go_wp2_with fail
      refine (rmul_any _ _ _ _ _ _ _ _ _ (S3.out.alloc _) (S2.out.alloc _)).mono ?_
      rw [e6.out]
      rintro e w2 ⟨A6, c6, rfl, hs6, hb⟩
      clear qa0 qa1 qa2 qa3 qb0 qb1 qb2 qb3 qo0 qo1 qo2 qo3 fo0 fo1 fo2 fo3
      have Ka' : Hid (Cf w2 w.heap.size n1 A1 l1.length c1 n2 A2 l2.length c2) := Cf.keep (Cf.keep Ka.out (blw1 _ _)) hb
      have Kb' : Hid (Cf w2 (w.heap.size + 1) n3 A3 l3.length c3 n4 A4 l4.length c4) := Cf.keep (Cf.keep Kb.out (blw1 _ _)) hb
      have Fo' : Hid (Ff w2 (w.heap.size + 1 + 1)) := Ff.keep (Ff.keep Fo.out Ko.out (blw1 _ _)) (Cf.keep Ko.out (blw1 _ _)) hb
      have Ko' : Hid (Cf w2 (w.heap.size + 1 + 1) false none 0 0 false none 0 0) := Cf.keep (Cf.keep Ko.out (blw1 _ _)) hb
      have K5' : Hid (Cw w2 w1.heap.size n5 A5 l5.length c5) := Cw.keep (Cw.fresh (by simp) _ _ _ _ _) hb
      have S1' : Hid (Sl w2 A1 l1 c1) := Sl.below (S1.out.alloc _) hb
      have S2' : Hid (Sl w2 A2 l2 c2) := Sl.below (S2.out.alloc _) hb
      have S3' : Hid (Sl w2 A3 l3 c3) := Sl.below (S3.out.alloc _) hb
      have S4' : Hid (Sl w2 A4 l4 c4) := Sl.below (S4.out.alloc _) hb
      have S5' : Hid (Sl w2 A5 l5 c5) := Sl.below (S5.out.alloc _) hb
      have B' : Hid (Below w.heap.size w w2) := below_mono (below_mono B.out (blw1 _ _)) hb
      clear hb Ka Kb Fo Ko S1 S2 S3 S4 S5 B
      have Ka := Ka'
      have Kb := Kb'
      have Fo := Fo'
      have Ko := Ko'
      have K5 := K5'
      have S1 := S1'
      have S2 := S2'
      have S3 := S3'
      have S4 := S4'
      have S5 := S5'
      have B := B'
      clear Ka' Kb' Fo' Ko' K5' S1' S2' S3' S4' S5' B'
      (try dsimp only at hs6)
      (try dsimp only)
      have S6 : Hid (Sl w2 A6 l6 c6) := hs6
      clear hs6
      obtain ⟨qa0, qa1, qa2, qa3⟩ := Ka.out
      obtain ⟨qb0, qb1, qb2, qb3⟩ := Kb.out
      obtain ⟨qo0, qo1, qo2, qo3⟩ := Ko.out
      obtain ⟨fo0, fo1, fo2, fo3⟩ := Fo.out
      replace hza : w.heap.size < w2.heap.size := lt_of_cell (a := ⟨w.heap.size, 0, none⟩) Ka.out.1
      replace hzb : w.heap.size + 1 < w2.heap.size := lt_of_cell (a := ⟨w.heap.size + 1, 0, none⟩) Kb.out.1
      replace hzo : w.heap.size + 1 + 1 < w2.heap.size := lt_of_cell (a := ⟨w.heap.size + 1 + 1, 0, none⟩) Ko.out.1
      have hz5 : w1.heap.size < w2.heap.size := lt_of_cell (a := ⟨w1.heap.size, 0, none⟩) K5.out.1
      have hka6 := hza
      have hkb6 := hzb
      have hko6 := hzo
      have hk56 := hz5
      go_wp2_with fail
      refine (rmul_any _ _ _ _ _ _ _ _ _ (S2.out.alloc _) (S4.out.alloc _)).mono ?_
      rw [e7.out]
      rintro e w3 ⟨A7, c7, rfl, hs7, hb⟩
      clear qa0 qa1 qa2 qa3 qb0 qb1 qb2 qb3 qo0 qo1 qo2 qo3 fo0 fo1 fo2 fo3
      have Ka' : Hid (Cf w3 w.heap.size n1 A1 l1.length c1 n2 A2 l2.length c2) := Cf.keep (Cf.keep Ka.out (blw1 _ _)) hb
      have Kb' : Hid (Cf w3 (w.heap.size + 1) n3 A3 l3.length c3 n4 A4 l4.length c4) := Cf.keep (Cf.keep Kb.out (blw1 _ _)) hb
      have Fo' : Hid (Ff w3 (w.heap.size + 1 + 1)) := Ff.keep (Ff.keep Fo.out Ko.out (blw1 _ _)) (Cf.keep Ko.out (blw1 _ _)) hb
      have Ko' : Hid (Cf w3 (w.heap.size + 1 + 1) false none 0 0 false none 0 0) := Cf.keep (Cf.keep Ko.out (blw1 _ _)) hb
      have K5' : Hid (Cw w3 w1.heap.size n5 A5 l5.length c5) := Cw.keep (Cw.keep K5.out (blw1 _ _)) hb
      have K6' : Hid (Cw w3 w2.heap.size n6 A6 l6.length c6) := Cw.keep (Cw.fresh (by simp) _ _ _ _ _) hb
      have S1' : Hid (Sl w3 A1 l1 c1) := Sl.below (S1.out.alloc _) hb
      have S2' : Hid (Sl w3 A2 l2 c2) := Sl.below (S2.out.alloc _) hb
      have S3' : Hid (Sl w3 A3 l3 c3) := Sl.below (S3.out.alloc _) hb
      have S4' : Hid (Sl w3 A4 l4 c4) := Sl.below (S4.out.alloc _) hb
      have S5' : Hid (Sl w3 A5 l5 c5) := Sl.below (S5.out.alloc _) hb
      have S6' : Hid (Sl w3 A6 l6 c6) := Sl.below (S6.out.alloc _) hb
      have B' : Hid (Below w.heap.size w w3) := below_mono (below_mono B.out (blw1 _ _)) hb
      clear hb Ka Kb Fo Ko K5 S1 S2 S3 S4 S5 S6 B
      have Ka := Ka'
      have Kb := Kb'
      have Fo := Fo'
      have Ko := Ko'
      have K5 := K5'
      have K6 := K6'
      have S1 := S1'
      have S2 := S2'
      have S3 := S3'
      have S4 := S4'
      have S5 := S5'
      have S6 := S6'
      have B := B'
      clear Ka' Kb' Fo' Ko' K5' K6' S1' S2' S3' S4' S5' S6' B'
      (try dsimp only at hs7)
      (try dsimp only)
      have S7 : Hid (Sl w3 A7 l7 c7) := hs7
      clear hs7
      obtain ⟨qa0, qa1, qa2, qa3⟩ := Ka.out
      obtain ⟨qb0, qb1, qb2, qb3⟩ := Kb.out
      obtain ⟨qo0, qo1, qo2, qo3⟩ := Ko.out
      obtain ⟨fo0, fo1, fo2, fo3⟩ := Fo.out
      obtain ⟨q50, q51⟩ := K5.out
      obtain ⟨q60, q61⟩ := K6.out
      replace hza : w.heap.size < w3.heap.size := lt_of_cell (a := ⟨w.heap.size, 0, none⟩) Ka.out.1
      replace hzb : w.heap.size + 1 < w3.heap.size := lt_of_cell (a := ⟨w.heap.size + 1, 0, none⟩) Kb.out.1
      replace hzo : w.heap.size + 1 + 1 < w3.heap.size := lt_of_cell (a := ⟨w.heap.size + 1 + 1, 0, none⟩) Ko.out.1
      replace hz5 : w1.heap.size < w3.heap.size := lt_of_cell (a := ⟨w1.heap.size, 0, none⟩) K5.out.1
      have hz6 : w2.heap.size < w3.heap.size := lt_of_cell (a := ⟨w2.heap.size, 0, none⟩) K6.out.1
      have hka7 := hza
      have hkb7 := hzb
      have hko7 := hzo
      have hk57 := hz5
      have hk67 := hz6
      have hz9 : w.heap.size + 1 + 1 < w3.heap.size := by omega
      go_wp2
      exact bodyPost_ret (v := .tuple #[.agg #[.bool false, .slice none 0 0, .bool false, .slice none 0 0], .int .i64 16]) (by simp [results, Try.results48, go_sem, qo0, qo1, qo2, qo3, hz9]) rfl (FRes.alloc (fres_store4 (r := zF) 16 (Sl.nil _ none 0) (Sl.nil _ none 0) Ko.out B.out (by omega) _ _ _ _) _)
    | true =>
      have v6 : VZ n6 l6 (x2 * y1) ∧ k6 = 0 := by
        rw [mulS_z h3 h2 (fitB_iff.1 f1)] at r6
        obtain ⟨e1, e2⟩ := Prod.mk.inj r6
        exact ⟨vz_mk e1.symm (fitB_iff.1 f1), e2.symm⟩
      obtain ⟨v6, rfl⟩ := v6
      cases f2 : fitB (y1 * y2) with
      | false =>
        rw [if_neg (by simp)]
        obtain rfl : k7 = 16 := by
          rw [mulS_out h2 h4, outZ_bad (fun e => by rw [fitB_iff.2 e] at f2; cases f2)] at r7
          exact (Prod.mk.inj r7).2.symm
        clear h1 h2 h3 h4 r5 r6 r7 hden f0 f1 f2 v5 v6
        go_enter Try.func48, Try.ntmps48
        go_wp2_with fail
        refine (rmul_any _ _ _ _ _ _ _ _ _ (((S1.out.alloc _).alloc _).alloc _) (((S4.out.alloc _).alloc _).alloc _)).mono ?_
        rw [e5.out]
        rintro e w1 ⟨A5, c5, rfl, hs5, hb⟩
        have Ka' : Hid (Cf w1 w.heap.size n1 A1 l1.length c1 n2 A2 l2.length c2) := Cf.keep (Cf.keep (Cf.keep (Cf.fresh (by simp) _ _ _ _ _ _ _ _ _) (blw1 _ _)) (blw1 _ _)) hb
        have Kb' : Hid (Cf w1 (w.heap.size + 1) n3 A3 l3.length c3 n4 A4 l4.length c4) := Cf.keep (Cf.keep (Cf.fresh (by simp) _ _ _ _ _ _ _ _ _) (blw1 _ _)) hb
        have Fo' : Hid (Ff w1 (w.heap.size + 1 + 1)) := Ff.keep (Ff.fresh (by simp) _ _) (Cf.fresh (by simp) _ _ _ _ _ _ _ _ _) hb
        have Ko' : Hid (Cf w1 (w.heap.size + 1 + 1) false none 0 0 false none 0 0) := Cf.keep (Cf.fresh (by simp) _ _ _ _ _ _ _ _ _) hb
        have S1' : Hid (Sl w1 A1 l1 c1) := Sl.below (((S1.out.alloc _).alloc _).alloc _) hb
        have S2' : Hid (Sl w1 A2 l2 c2) := Sl.below (((S2.out.alloc _).alloc _).alloc _) hb
        have S3' : Hid (Sl w1 A3 l3 c3) := Sl.below (((S3.out.alloc _).alloc _).alloc _) hb
        have S4' : Hid (Sl w1 A4 l4 c4) := Sl.below (((S4.out.alloc _).alloc _).alloc _) hb
        have B' : Hid (Below w.heap.size w w1) := below_mono (below_mono (below_mono (below_mono B.out (blw1 _ _)) (blw1 _ _)) (blw1 _ _)) hb
        clear hb S1 S2 S3 S4 B
        have Ka := Ka'
        have Kb := Kb'
        have Fo := Fo'
        have Ko := Ko'
        have S1 := S1'
        have S2 := S2'
        have S3 := S3'
        have S4 := S4'
        have B := B'
        clear Ka' Kb' Fo' Ko' S1' S2' S3' S4' B'
        (try dsimp only at hs5)
        (try dsimp only)
        have S5 : Hid (Sl w1 A5 l5 c5) := hs5
        clear hs5
        obtain ⟨qa0, qa1, qa2, qa3⟩ := Ka.out
        obtain ⟨qb0, qb1, qb2, qb3⟩ := Kb.out
        obtain ⟨qo0, qo1, qo2, qo3⟩ := Ko.out
        obtain ⟨fo0, fo1, fo2, fo3⟩ := Fo.out
        have hza : w.heap.size < w1.heap.size := lt_of_cell (a := ⟨w.heap.size, 0, none⟩) Ka.out.1
        have hzb : w.heap.size + 1 < w1.heap.size := lt_of_cell (a := ⟨w.heap.size + 1, 0, none⟩) Kb.out.1
        have hzo : w.heap.size + 1 + 1 < w1.heap.size := lt_of_cell (a := ⟨w.heap.size + 1 + 1, 0, none⟩) Ko.out.1
        have hka5 := hza
        have hkb5 := hzb
        have hko5 := hzo
        go_wp2_with fail
        refine (rmul_any _ _ _ _ _ _ _ _ _ (S3.out.alloc _) (S2.out.alloc _)).mono ?_
        rw [e6.out]
        rintro e w2 ⟨A6, c6, rfl, hs6, hb⟩
        clear qa0 qa1 qa2 qa3 qb0 qb1 qb2 qb3 qo0 qo1 qo2 qo3 fo0 fo1 fo2 fo3
        have Ka' : Hid (Cf w2 w.heap.size n1 A1 l1.length c1 n2 A2 l2.length c2) := Cf.keep (Cf.keep Ka.out (blw1 _ _)) hb
        have Kb' : Hid (Cf w2 (w.heap.size + 1) n3 A3 l3.length c3 n4 A4 l4.length c4) := Cf.keep (Cf.keep Kb.out (blw1 _ _)) hb
        have Fo' : Hid (Ff w2 (w.heap.size + 1 + 1)) := Ff.keep (Ff.keep Fo.out Ko.out (blw1 _ _)) (Cf.keep Ko.out (blw1 _ _)) hb
        have Ko' : Hid (Cf w2 (w.heap.size + 1 + 1) false none 0 0 false none 0 0) := Cf.keep (Cf.keep Ko.out (blw1 _ _)) hb
        have K5' : Hid (Cw w2 w1.heap.size n5 A5 l5.length c5) := Cw.keep (Cw.fresh (by simp) _ _ _ _ _) hb
        have S1' : Hid (Sl w2 A1 l1 c1) := Sl.below (S1.out.alloc _) hb
        have S2' : Hid (Sl w2 A2 l2 c2) := Sl.below (S2.out.alloc _) hb
        have S3' : Hid (Sl w2 A3 l3 c3) := Sl.below (S3.out.alloc _) hb
        have S4' : Hid (Sl w2 A4 l4 c4) := Sl.below (S4.out.alloc _) hb
        have S5' : Hid (Sl w2 A5 l5 c5) := Sl.below (S5.out.alloc _) hb
        have B' : Hid (Below w.heap.size w w2) := below_mono (below_mono B.out (blw1 _ _)) hb
        clear hb Ka Kb Fo Ko S1 S2 S3 S4 S5 B
        have Ka := Ka'
        have Kb := Kb'
        have Fo := Fo'
        have Ko := Ko'
        have K5 := K5'
        have S1 := S1'
        have S2 := S2'
        have S3 := S3'
        have S4 := S4'
        have S5 := S5'
        have B := B'
        clear Ka' Kb' Fo' Ko' K5' S1' S2' S3' S4' S5' B'
        (try dsimp only at hs6)
        (try dsimp only)
        have S6 : Hid (Sl w2 A6 l6 c6) := hs6
        clear hs6
        obtain ⟨qa0, qa1, qa2, qa3⟩ := Ka.out
        obtain ⟨qb0, qb1, qb2, qb3⟩ := Kb.out
        obtain ⟨qo0, qo1, qo2, qo3⟩ := Ko.out
        obtain ⟨fo0, fo1, fo2, fo3⟩ := Fo.out
        replace hza : w.heap.size < w2.heap.size := lt_of_cell (a := ⟨w.heap.size, 0, none⟩) Ka.out.1
        replace hzb : w.heap.size + 1 < w2.heap.size := lt_of_cell (a := ⟨w.heap.size + 1, 0, none⟩) Kb.out.1
        replace hzo : w.heap.size + 1 + 1 < w2.heap.size := lt_of_cell (a := ⟨w.heap.size + 1 + 1, 0, none⟩) Ko.out.1
        have hz5 : w1.heap.size < w2.heap.size := lt_of_cell (a := ⟨w1.heap.size, 0, none⟩) K5.out.1
        have hka6 := hza
        have hkb6 := hzb
        have hko6 := hzo
        have hk56 := hz5
        go_wp2_with fail
        refine (rmul_any _ _ _ _ _ _ _ _ _ (S2.out.alloc _) (S4.out.alloc _)).mono ?_
        rw [e7.out]
        rintro e w3 ⟨A7, c7, rfl, hs7, hb⟩
        clear qa0 qa1 qa2 qa3 qb0 qb1 qb2 qb3 qo0 qo1 qo2 qo3 fo0 fo1 fo2 fo3
        have Ka' : Hid (Cf w3 w.heap.size n1 A1 l1.length c1 n2 A2 l2.length c2) := Cf.keep (Cf.keep Ka.out (blw1 _ _)) hb
        have Kb' : Hid (Cf w3 (w.heap.size + 1) n3 A3 l3.length c3 n4 A4 l4.length c4) := Cf.keep (Cf.keep Kb.out (blw1 _ _)) hb
        have Fo' : Hid (Ff w3 (w.heap.size + 1 + 1)) := Ff.keep (Ff.keep Fo.out Ko.out (blw1 _ _)) (Cf.keep Ko.out (blw1 _ _)) hb
        have Ko' : Hid (Cf w3 (w.heap.size + 1 + 1) false none 0 0 false none 0 0) := Cf.keep (Cf.keep Ko.out (blw1 _ _)) hb
        have K5' : Hid (Cw w3 w1.heap.size n5 A5 l5.length c5) := Cw.keep (Cw.keep K5.out (blw1 _ _)) hb
        have K6' : Hid (Cw w3 w2.heap.size n6 A6 l6.length c6) := Cw.keep (Cw.fresh (by simp) _ _ _ _ _) hb
        have S1' : Hid (Sl w3 A1 l1 c1) := Sl.below (S1.out.alloc _) hb
        have S2' : Hid (Sl w3 A2 l2 c2) := Sl.below (S2.out.alloc _) hb
        have S3' : Hid (Sl w3 A3 l3 c3) := Sl.below (S3.out.alloc _) hb
        have S4' : Hid (Sl w3 A4 l4 c4) := Sl.below (S4.out.alloc _) hb
        have S5' : Hid (Sl w3 A5 l5 c5) := Sl.below (S5.out.alloc _) hb
        have S6' : Hid (Sl w3 A6 l6 c6) := Sl.below (S6.out.alloc _) hb
        have B' : Hid (Below w.heap.size w w3) := below_mono (below_mono B.out (blw1 _ _)) hb
        clear hb Ka Kb Fo Ko K5 S1 S2 S3 S4 S5 S6 B
        have Ka := Ka'
        have Kb := Kb'
        have Fo := Fo'
        have Ko := Ko'
        have K5 := K5'
        have K6 := K6'
        have S1 := S1'
        have S2 := S2'
        have S3 := S3'
        have S4 := S4'
        have S5 := S5'
        have S6 := S6'
        have B := B'
        clear Ka' Kb' Fo' Ko' K5' K6' S1' S2' S3' S4' S5' S6' B'
        (try dsimp only at hs7)
        (try dsimp only)
        have S7 : Hid (Sl w3 A7 l7 c7) := hs7
        clear hs7
        obtain ⟨qa0, qa1, qa2, qa3⟩ := Ka.out
        obtain ⟨qb0, qb1, qb2, qb3⟩ := Kb.out
        obtain ⟨qo0, qo1, qo2, qo3⟩ := Ko.out
        obtain ⟨fo0, fo1, fo2, fo3⟩ := Fo.out
        obtain ⟨q50, q51⟩ := K5.out
        obtain ⟨q60, q61⟩ := K6.out
        replace hza : w.heap.size < w3.heap.size := lt_of_cell (a := ⟨w.heap.size, 0, none⟩) Ka.out.1
        replace hzb : w.heap.size + 1 < w3.heap.size := lt_of_cell (a := ⟨w.heap.size + 1, 0, none⟩) Kb.out.1
        replace hzo : w.heap.size + 1 + 1 < w3.heap.size := lt_of_cell (a := ⟨w.heap.size + 1 + 1, 0, none⟩) Ko.out.1
        replace hz5 : w1.heap.size < w3.heap.size := lt_of_cell (a := ⟨w1.heap.size, 0, none⟩) K5.out.1
        have hz6 : w2.heap.size < w3.heap.size := lt_of_cell (a := ⟨w2.heap.size, 0, none⟩) K6.out.1
        have hka7 := hza
        have hkb7 := hzb
        have hko7 := hzo
        have hk57 := hz5
        have hk67 := hz6
        have hz9 : w.heap.size + 1 + 1 < w3.heap.size := by omega
        go_wp2
        exact bodyPost_ret (v := .tuple #[.agg #[.bool false, .slice none 0 0, .bool false, .slice none 0 0], .int .i64 16]) (by simp [results, Try.results48, go_sem, qo0, qo1, qo2, qo3, hz9]) rfl (FRes.alloc (fres_store4 (r := zF) 16 (Sl.nil _ none 0) (Sl.nil _ none 0) Ko.out B.out (by omega) _ _ _ _) _)
      | true =>
        have v7 : VZ n7 l7 (y1 * y2) ∧ k7 = 0 := by
          rw [mulS_z h2 h4 (fitB_iff.1 f2)] at r7
          obtain ⟨e1, e2⟩ := Prod.mk.inj r7
          exact ⟨vz_mk e1.symm (fitB_iff.1 f2), e2.symm⟩
        obtain ⟨v7, rfl⟩ := v7
        obtain ⟨⟨⟨n8, l8⟩, k8⟩, r8⟩ : ∃ r, addS n5 l5 n6 l6 = r := ⟨_, rfl⟩
        have e8 := Lib.hid r8
        obtain ⟨⟨⟨n9, l9⟩, k9⟩, r9⟩ : ∃ r, subS n5 l5 n6 l6 = r := ⟨_, rfl⟩
        have e9 := Lib.hid r9
        cases f3 : fitB (x1 * y2 - x2 * y1) with
        | false =>
          rw [if_neg (by simp)]
          obtain rfl : k9 = 16 := by
            rw [subS_out v5 v6, outZ_bad (fun e => by rw [fitB_iff.2 e] at f3; cases f3)] at r9
            exact (Prod.mk.inj r9).2.symm
          clear h1 h2 h3 h4 r5 r6 r7 hden f0 f1 f2 f3 r8 r9 v5 v6 v7
          go_enter Try.func48, Try.ntmps48
          go_wp2_with fail
          refine (rmul_any _ _ _ _ _ _ _ _ _ (((S1.out.alloc _).alloc _).alloc _) (((S4.out.alloc _).alloc _).alloc _)).mono ?_
          rw [e5.out]
          rintro e w1 ⟨A5, c5, rfl, hs5, hb⟩
          have Ka' : Hid (Cf w1 w.heap.size n1 A1 l1.length c1 n2 A2 l2.length c2) := Cf.keep (Cf.keep (Cf.keep (Cf.fresh (by simp) _ _ _ _ _ _ _ _ _) (blw1 _ _)) (blw1 _ _)) hb
          have Kb' : Hid (Cf w1 (w.heap.size + 1) n3 A3 l3.length c3 n4 A4 l4.length c4) := Cf.keep (Cf.keep (Cf.fresh (by simp) _ _ _ _ _ _ _ _ _) (blw1 _ _)) hb
          have Fo' : Hid (Ff w1 (w.heap.size + 1 + 1)) := Ff.keep (Ff.fresh (by simp) _ _) (Cf.fresh (by simp) _ _ _ _ _ _ _ _ _) hb
          have Ko' : Hid (Cf w1 (w.heap.size + 1 + 1) false none 0 0 false none 0 0) := Cf.keep (Cf.fresh (by simp) _ _ _ _ _ _ _ _ _) hb
          have S1' : Hid (Sl w1 A1 l1 c1) := Sl.below (((S1.out.alloc _).alloc _).alloc _) hb
          have S2' : Hid (Sl w1 A2 l2 c2) := Sl.below (((S2.out.alloc _).alloc _).alloc _) hb
          have S3' : Hid (Sl w1 A3 l3 c3) := Sl.below (((S3.out.alloc _).alloc _).alloc _) hb
          have S4' : Hid (Sl w1 A4 l4 c4) := Sl.below (((S4.out.alloc _).alloc _).alloc _) hb
          have B' : Hid (Below w.heap.size w w1) := below_mono (below_mono (below_mono (below_mono B.out (blw1 _ _)) (blw1 _ _)) (blw1 _ _)) hb
          clear hb S1 S2 S3 S4 B
          have Ka := Ka'
          have Kb := Kb'
          have Fo := Fo'
          have Ko := Ko'
          have S1 := S1'
          have S2 := S2'
          have S3 := S3'
          have S4 := S4'
          have B := B'
          clear Ka' Kb' Fo' Ko' S1' S2' S3' S4' B'
          (try dsimp only at hs5)
          (try dsimp only)
          have S5 : Hid (Sl w1 A5 l5 c5) := hs5
          clear hs5
          obtain ⟨qa0, qa1, qa2, qa3⟩ := Ka.out
          obtain ⟨qb0, qb1, qb2, qb3⟩ := Kb.out
          obtain ⟨qo0, qo1, qo2, qo3⟩ := Ko.out
          obtain ⟨fo0, fo1, fo2, fo3⟩ := Fo.out
          have hza : w.heap.size < w1.heap.size := lt_of_cell (a := ⟨w.heap.size, 0, none⟩) Ka.out.1
          have hzb : w.heap.size + 1 < w1.heap.size := lt_of_cell (a := ⟨w.heap.size + 1, 0, none⟩) Kb.out.1
          have hzo : w.heap.size + 1 + 1 < w1.heap.size := lt_of_cell (a := ⟨w.heap.size + 1 + 1, 0, none⟩) Ko.out.1
          have hka5 := hza
          have hkb5 := hzb
          have hko5 := hzo
          go_wp2_with fail
          refine (rmul_any _ _ _ _ _ _ _ _ _ (S3.out.alloc _) (S2.out.alloc _)).mono ?_
          rw [e6.out]
          rintro e w2 ⟨A6, c6, rfl, hs6, hb⟩
          clear qa0 qa1 qa2 qa3 qb0 qb1 qb2 qb3 qo0 qo1 qo2 qo3 fo0 fo1 fo2 fo3
          have Ka' : Hid (Cf w2 w.heap.size n1 A1 l1.length c1 n2 A2 l2.length c2) := Cf.keep (Cf.keep Ka.out (blw1 _ _)) hb
          have Kb' : Hid (Cf w2 (w.heap.size + 1) n3 A3 l3.length c3 n4 A4 l4.length c4) := Cf.keep (Cf.keep Kb.out (blw1 _ _)) hb
          have Fo' : Hid (Ff w2 (w.heap.size + 1 + 1)) := Ff.keep (Ff.keep Fo.out Ko.out (blw1 _ _)) (Cf.keep Ko.out (blw1 _ _)) hb
          have Ko' : Hid (Cf w2 (w.heap.size + 1 + 1) false none 0 0 false none 0 0) := Cf.keep (Cf.keep Ko.out (blw1 _ _)) hb
          have K5' : Hid (Cw w2 w1.heap.size n5 A5 l5.length c5) := Cw.keep (Cw.fresh (by simp) _ _ _ _ _) hb
          have S1' : Hid (Sl w2 A1 l1 c1) := Sl.below (S1.out.alloc _) hb
          have S2' : Hid (Sl w2 A2 l2 c2) := Sl.below (S2.out.alloc _) hb
          have S3' : Hid (Sl w2 A3 l3 c3) := Sl.below (S3.out.alloc _) hb
          have S4' : Hid (Sl w2 A4 l4 c4) := Sl.below (S4.out.alloc _) hb
          have S5' : Hid (Sl w2 A5 l5 c5) := Sl.below (S5.out.alloc _) hb
          have B' : Hid (Below w.heap.size w w2) := below_mono (below_mono B.out (blw1 _ _)) hb
          clear hb Ka Kb Fo Ko S1 S2 S3 S4 S5 B
          have Ka := Ka'
          have Kb := Kb'
          have Fo := Fo'
          have Ko := Ko'
          have K5 := K5'
          have S1 := S1'
          have S2 := S2'
          have S3 := S3'
          have S4 := S4'
          have S5 := S5'
          have B := B'
          clear Ka' Kb' Fo' Ko' K5' S1' S2' S3' S4' S5' B'
          (try dsimp only at hs6)
          (try dsimp only)
          have S6 : Hid (Sl w2 A6 l6 c6) := hs6
          clear hs6
          obtain ⟨qa0, qa1, qa2, qa3⟩ := Ka.out
          obtain ⟨qb0, qb1, qb2, qb3⟩ := Kb.out
          obtain ⟨qo0, qo1, qo2, qo3⟩ := Ko.out
          obtain ⟨fo0, fo1, fo2, fo3⟩ := Fo.out
          replace hza : w.heap.size < w2.heap.size := lt_of_cell (a := ⟨w.heap.size, 0, none⟩) Ka.out.1
          replace hzb : w.heap.size + 1 < w2.heap.size := lt_of_cell (a := ⟨w.heap.size + 1, 0, none⟩) Kb.out.1
          replace hzo : w.heap.size + 1 + 1 < w2.heap.size := lt_of_cell (a := ⟨w.heap.size + 1 + 1, 0, none⟩) Ko.out.1
          have hz5 : w1.heap.size < w2.heap.size := lt_of_cell (a := ⟨w1.heap.size, 0, none⟩) K5.out.1
          have hka6 := hza
          have hkb6 := hzb
          have hko6 := hzo
          have hk56 := hz5
          go_wp2_with fail
          refine (rmul_any _ _ _ _ _ _ _ _ _ (S2.out.alloc _) (S4.out.alloc _)).mono ?_
          rw [e7.out]
          rintro e w3 ⟨A7, c7, rfl, hs7, hb⟩
          clear qa0 qa1 qa2 qa3 qb0 qb1 qb2 qb3 qo0 qo1 qo2 qo3 fo0 fo1 fo2 fo3
          have Ka' : Hid (Cf w3 w.heap.size n1 A1 l1.length c1 n2 A2 l2.length c2) := Cf.keep (Cf.keep Ka.out (blw1 _ _)) hb
          have Kb' : Hid (Cf w3 (w.heap.size + 1) n3 A3 l3.length c3 n4 A4 l4.length c4) := Cf.keep (Cf.keep Kb.out (blw1 _ _)) hb
          have Fo' : Hid (Ff w3 (w.heap.size + 1 + 1)) := Ff.keep (Ff.keep Fo.out Ko.out (blw1 _ _)) (Cf.keep Ko.out (blw1 _ _)) hb
          have Ko' : Hid (Cf w3 (w.heap.size + 1 + 1) false none 0 0 false none 0 0) := Cf.keep (Cf.keep Ko.out (blw1 _ _)) hb
          have K5' : Hid (Cw w3 w1.heap.size n5 A5 l5.length c5) := Cw.keep (Cw.keep K5.out (blw1 _ _)) hb
          have K6' : Hid (Cw w3 w2.heap.size n6 A6 l6.length c6) := Cw.keep (Cw.fresh (by simp) _ _ _ _ _) hb
          have S1' : Hid (Sl w3 A1 l1 c1) := Sl.below (S1.out.alloc _) hb
          have S2' : Hid (Sl w3 A2 l2 c2) := Sl.below (S2.out.alloc _) hb
          have S3' : Hid (Sl w3 A3 l3 c3) := Sl.below (S3.out.alloc _) hb
          have S4' : Hid (Sl w3 A4 l4 c4) := Sl.below (S4.out.alloc _) hb
          have S5' : Hid (Sl w3 A5 l5 c5) := Sl.below (S5.out.alloc _) hb
          have S6' : Hid (Sl w3 A6 l6 c6) := Sl.below (S6.out.alloc _) hb
          have B' : Hid (Below w.heap.size w w3) := below_mono (below_mono B.out (blw1 _ _)) hb
          clear hb Ka Kb Fo Ko K5 S1 S2 S3 S4 S5 S6 B
          have Ka := Ka'
          have Kb := Kb'
          have Fo := Fo'
          have Ko := Ko'
          have K5 := K5'
          have K6 := K6'
          have S1 := S1'
          have S2 := S2'
          have S3 := S3'
          have S4 := S4'
          have S5 := S5'
          have S6 := S6'
          have B := B'
          clear Ka' Kb' Fo' Ko' K5' K6' S1' S2' S3' S4' S5' S6' B'
          (try dsimp only at hs7)
          (try dsimp only)
          have S7 : Hid (Sl w3 A7 l7 c7) := hs7
          clear hs7
          obtain ⟨qa0, qa1, qa2, qa3⟩ := Ka.out
          obtain ⟨qb0, qb1, qb2, qb3⟩ := Kb.out
          obtain ⟨qo0, qo1, qo2, qo3⟩ := Ko.out
          obtain ⟨fo0, fo1, fo2, fo3⟩ := Fo.out
          obtain ⟨q50, q51⟩ := K5.out
          obtain ⟨q60, q61⟩ := K6.out
          replace hza : w.heap.size < w3.heap.size := lt_of_cell (a := ⟨w.heap.size, 0, none⟩) Ka.out.1
          replace hzb : w.heap.size + 1 < w3.heap.size := lt_of_cell (a := ⟨w.heap.size + 1, 0, none⟩) Kb.out.1
          replace hzo : w.heap.size + 1 + 1 < w3.heap.size := lt_of_cell (a := ⟨w.heap.size + 1 + 1, 0, none⟩) Ko.out.1
          replace hz5 : w1.heap.size < w3.heap.size := lt_of_cell (a := ⟨w1.heap.size, 0, none⟩) K5.out.1
          have hz6 : w2.heap.size < w3.heap.size := lt_of_cell (a := ⟨w2.heap.size, 0, none⟩) K6.out.1
          have hka7 := hza
          have hkb7 := hzb
          have hko7 := hzo
          have hk57 := hz5
          have hk67 := hz6
          go_wp2_with fail
          refine (radd_any _ _ _ _ _ _ _ _ _ (S5.out.alloc _) (S6.out.alloc _)).mono ?_
          rw [e8.out]
          rintro e w4 ⟨A8, c8, rfl, hs8, hb⟩
          clear qa0 qa1 qa2 qa3 qb0 qb1 qb2 qb3 qo0 qo1 qo2 qo3 fo0 fo1 fo2 fo3 q50 q51 q60 q61
          have Ka' : Hid (Cf w4 w.heap.size n1 A1 l1.length c1 n2 A2 l2.length c2) := Cf.keep (Cf.keep Ka.out (blw1 _ _)) hb
          have Kb' : Hid (Cf w4 (w.heap.size + 1) n3 A3 l3.length c3 n4 A4 l4.length c4) := Cf.keep (Cf.keep Kb.out (blw1 _ _)) hb
          have Fo' : Hid (Ff w4 (w.heap.size + 1 + 1)) := Ff.keep (Ff.keep Fo.out Ko.out (blw1 _ _)) (Cf.keep Ko.out (blw1 _ _)) hb
          have Ko' : Hid (Cf w4 (w.heap.size + 1 + 1) false none 0 0 false none 0 0) := Cf.keep (Cf.keep Ko.out (blw1 _ _)) hb
          have K5' : Hid (Cw w4 w1.heap.size n5 A5 l5.length c5) := Cw.keep (Cw.keep K5.out (blw1 _ _)) hb
          have K6' : Hid (Cw w4 w2.heap.size n6 A6 l6.length c6) := Cw.keep (Cw.keep K6.out (blw1 _ _)) hb
          have K7' : Hid (Cw w4 w3.heap.size n7 A7 l7.length c7) := Cw.keep (Cw.fresh (by simp) _ _ _ _ _) hb
          have S1' : Hid (Sl w4 A1 l1 c1) := Sl.below (S1.out.alloc _) hb
          have S2' : Hid (Sl w4 A2 l2 c2) := Sl.below (S2.out.alloc _) hb
          have S3' : Hid (Sl w4 A3 l3 c3) := Sl.below (S3.out.alloc _) hb
          have S4' : Hid (Sl w4 A4 l4 c4) := Sl.below (S4.out.alloc _) hb
          have S5' : Hid (Sl w4 A5 l5 c5) := Sl.below (S5.out.alloc _) hb
          have S6' : Hid (Sl w4 A6 l6 c6) := Sl.below (S6.out.alloc _) hb
          have S7' : Hid (Sl w4 A7 l7 c7) := Sl.below (S7.out.alloc _) hb
          have B' : Hid (Below w.heap.size w w4) := below_mono (below_mono B.out (blw1 _ _)) hb
          clear hb Ka Kb Fo Ko K5 K6 S1 S2 S3 S4 S5 S6 S7 B
          have Ka := Ka'
          have Kb := Kb'
          have Fo := Fo'
          have Ko := Ko'
          have K5 := K5'
          have K6 := K6'
          have K7 := K7'
          have S1 := S1'
          have S2 := S2'
          have S3 := S3'
          have S4 := S4'
          have S5 := S5'
          have S6 := S6'
          have S7 := S7'
          have B := B'
          clear Ka' Kb' Fo' Ko' K5' K6' K7' S1' S2' S3' S4' S5' S6' S7' B'
          (try dsimp only at hs8)
          (try dsimp only)
          have S8 : Hid (Sl w4 A8 l8 c8) := hs8
          clear hs8
          obtain ⟨qa0, qa1, qa2, qa3⟩ := Ka.out
          obtain ⟨qb0, qb1, qb2, qb3⟩ := Kb.out
          obtain ⟨qo0, qo1, qo2, qo3⟩ := Ko.out
          obtain ⟨fo0, fo1, fo2, fo3⟩ := Fo.out
          obtain ⟨q50, q51⟩ := K5.out
          obtain ⟨q60, q61⟩ := K6.out
          obtain ⟨q70, q71⟩ := K7.out
          replace hza : w.heap.size < w4.heap.size := lt_of_cell (a := ⟨w.heap.size, 0, none⟩) Ka.out.1
          replace hzb : w.heap.size + 1 < w4.heap.size := lt_of_cell (a := ⟨w.heap.size + 1, 0, none⟩) Kb.out.1
          replace hzo : w.heap.size + 1 + 1 < w4.heap.size := lt_of_cell (a := ⟨w.heap.size + 1 + 1, 0, none⟩) Ko.out.1
          replace hz5 : w1.heap.size < w4.heap.size := lt_of_cell (a := ⟨w1.heap.size, 0, none⟩) K5.out.1
          replace hz6 : w2.heap.size < w4.heap.size := lt_of_cell (a := ⟨w2.heap.size, 0, none⟩) K6.out.1
          have hz7 : w3.heap.size < w4.heap.size := lt_of_cell (a := ⟨w3.heap.size, 0, none⟩) K7.out.1
          have hka8 := hza
          have hkb8 := hzb
          have hko8 := hzo
          have hk58 := hz5
          have hk68 := hz6
          have hk78 := hz7
          go_wp2_with fail
          refine (rsub_any _ _ _ _ _ _ _ _ _ (S5.out.alloc _) (S6.out.alloc _)).mono ?_
          rw [e9.out]
          rintro e w5 ⟨A9', c9', rfl, hs9, hb⟩
          clear qa0 qa1 qa2 qa3 qb0 qb1 qb2 qb3 qo0 qo1 qo2 qo3 fo0 fo1 fo2 fo3 q50 q51 q60 q61 q70 q71
          have Ka' : Hid (Cf w5 w.heap.size n1 A1 l1.length c1 n2 A2 l2.length c2) := Cf.keep (Cf.keep Ka.out (blw1 _ _)) hb
          have Kb' : Hid (Cf w5 (w.heap.size + 1) n3 A3 l3.length c3 n4 A4 l4.length c4) := Cf.keep (Cf.keep Kb.out (blw1 _ _)) hb
          have Fo' : Hid (Ff w5 (w.heap.size + 1 + 1)) := Ff.keep (Ff.keep Fo.out Ko.out (blw1 _ _)) (Cf.keep Ko.out (blw1 _ _)) hb
          have Ko' : Hid (Cf w5 (w.heap.size + 1 + 1) false none 0 0 false none 0 0) := Cf.keep (Cf.keep Ko.out (blw1 _ _)) hb
          have K5' : Hid (Cw w5 w1.heap.size n5 A5 l5.length c5) := Cw.keep (Cw.keep K5.out (blw1 _ _)) hb
          have K6' : Hid (Cw w5 w2.heap.size n6 A6 l6.length c6) := Cw.keep (Cw.keep K6.out (blw1 _ _)) hb
          have K7' : Hid (Cw w5 w3.heap.size n7 A7 l7.length c7) := Cw.keep (Cw.keep K7.out (blw1 _ _)) hb
          have F8' : Hid (Fw w5 w4.heap.size) := Fw.keep (Fw.fresh (by simp) _ _) (Cw.fresh (by simp) _ _ _ _ _) hb
          have K8' : Hid (Cw w5 w4.heap.size n8 A8 l8.length c8) := Cw.keep (Cw.fresh (by simp) _ _ _ _ _) hb
          have S1' : Hid (Sl w5 A1 l1 c1) := Sl.below (S1.out.alloc _) hb
          have S2' : Hid (Sl w5 A2 l2 c2) := Sl.below (S2.out.alloc _) hb
          have S3' : Hid (Sl w5 A3 l3 c3) := Sl.below (S3.out.alloc _) hb
          have S4' : Hid (Sl w5 A4 l4 c4) := Sl.below (S4.out.alloc _) hb
          have S5' : Hid (Sl w5 A5 l5 c5) := Sl.below (S5.out.alloc _) hb
          have S6' : Hid (Sl w5 A6 l6 c6) := Sl.below (S6.out.alloc _) hb
          have S7' : Hid (Sl w5 A7 l7 c7) := Sl.below (S7.out.alloc _) hb
          have S8' : Hid (Sl w5 A8 l8 c8) := Sl.below (S8.out.alloc _) hb
          have B' : Hid (Below w.heap.size w w5) := below_mono (below_mono B.out (blw1 _ _)) hb
          clear hb Ka Kb Fo Ko K5 K6 K7 S1 S2 S3 S4 S5 S6 S7 S8 B
          have Ka := Ka'
          have Kb := Kb'
          have Fo := Fo'
          have Ko := Ko'
          have K5 := K5'
          have K6 := K6'
          have K7 := K7'
          have F8 := F8'
          have K8 := K8'
          have S1 := S1'
          have S2 := S2'
          have S3 := S3'
          have S4 := S4'
          have S5 := S5'
          have S6 := S6'
          have S7 := S7'
          have S8 := S8'
          have B := B'
          clear Ka' Kb' Fo' Ko' K5' K6' K7' F8' K8' S1' S2' S3' S4' S5' S6' S7' S8' B'
          (try dsimp only at hs9)
          (try dsimp only)
          have S9 : Hid (Sl w5 A9' l9 c9') := hs9
          clear hs9
          obtain ⟨qo0, qo1, qo2, qo3⟩ := Ko.out
          obtain ⟨fo0, fo1, fo2, fo3⟩ := Fo.out
          obtain ⟨q70, q71⟩ := K7.out
          obtain ⟨q80, q81⟩ := K8.out
          obtain ⟨f80, f81⟩ := F8.out
          replace hza : w.heap.size < w5.heap.size := lt_of_cell (a := ⟨w.heap.size, 0, none⟩) Ka.out.1
          replace hzb : w.heap.size + 1 < w5.heap.size := lt_of_cell (a := ⟨w.heap.size + 1, 0, none⟩) Kb.out.1
          replace hzo : w.heap.size + 1 + 1 < w5.heap.size := lt_of_cell (a := ⟨w.heap.size + 1 + 1, 0, none⟩) Ko.out.1
          replace hz5 : w1.heap.size < w5.heap.size := lt_of_cell (a := ⟨w1.heap.size, 0, none⟩) K5.out.1
          replace hz6 : w2.heap.size < w5.heap.size := lt_of_cell (a := ⟨w2.heap.size, 0, none⟩) K6.out.1
          replace hz7 : w3.heap.size < w5.heap.size := lt_of_cell (a := ⟨w3.heap.size, 0, none⟩) K7.out.1
          have hz8 : w4.heap.size < w5.heap.size := lt_of_cell (a := ⟨w4.heap.size, 0, none⟩) K8.out.1
          go_wp2
          exact bodyPost_ret (v := .tuple #[.agg #[.bool false, .slice none 0 0, .bool false, .slice none 0 0], .int .i64 16]) (by simp [results, Try.results48, go_sem, qo0, qo1, qo2, qo3]) rfl (fres_store4 (r := zF) 16 (Sl.nil _ none 0) (Sl.nil _ none 0) (Cf.setW Ko.out (by omega) _ _) (below_setW B.out (by omega) _ _) (by omega) _ _ _ _)
        | true =>
          rw [if_pos (by simp)]
          obtain ⟨v9, rfl⟩ : VZ n9 l9 (x1 * y2 - x2 * y1) ∧ k9 = 0 := by
            rw [subS_z v5 v6 (fitB_iff.1 f3)] at r9
            obtain ⟨e1, e2⟩ := Prod.mk.inj r9
            exact ⟨vz_mk e1.symm (fitB_iff.1 f3), e2.symm⟩
          obtain ⟨⟨⟨na, la⟩, ⟨nb, lb⟩⟩, hr⟩ : ∃ r, r = redZ (x1 * y2 - x2 * y1) (y1 * y2) := ⟨_, rfl⟩
          have HR : Hid (∀ W A A' c c', Sl W A l9 c → Sl W A' l7 c' → Calls Try.prog 34 #[.agg #[.bool n9, .slice A l9.length c], .agg #[.bool n7, .slice A' l7.length c']] W (FRes1 ((na, la), (nb, lb)) W)) := fun W A A' c c' a b => by rw [hr]; exact rreduced_any n9 n7 A A' l9 l7 c c' _ _ v9 v7 hden W a b
          rw [← hr]
          clear hr
          clear h1 h2 h3 h4 r5 r6 r7 hden f0 f1 f2 f3 r8 r9 v5 v6 v7 v9
          go_enter Try.func48, Try.ntmps48
          go_wp2_with fail
          refine (rmul_any _ _ _ _ _ _ _ _ _ (((S1.out.alloc _).alloc _).alloc _) (((S4.out.alloc _).alloc _).alloc _)).mono ?_
          rw [e5.out]
          rintro e w1 ⟨A5, c5, rfl, hs5, hb⟩
          have Ka' : Hid (Cf w1 w.heap.size n1 A1 l1.length c1 n2 A2 l2.length c2) := Cf.keep (Cf.keep (Cf.keep (Cf.fresh (by simp) _ _ _ _ _ _ _ _ _) (blw1 _ _)) (blw1 _ _)) hb
          have Kb' : Hid (Cf w1 (w.heap.size + 1) n3 A3 l3.length c3 n4 A4 l4.length c4) := Cf.keep (Cf.keep (Cf.fresh (by simp) _ _ _ _ _ _ _ _ _) (blw1 _ _)) hb
          have Fo' : Hid (Ff w1 (w.heap.size + 1 + 1)) := Ff.keep (Ff.fresh (by simp) _ _) (Cf.fresh (by simp) _ _ _ _ _ _ _ _ _) hb
          have Ko' : Hid (Cf w1 (w.heap.size + 1 + 1) false none 0 0 false none 0 0) := Cf.keep (Cf.fresh (by simp) _ _ _ _ _ _ _ _ _) hb
          have S1' : Hid (Sl w1 A1 l1 c1) := Sl.below (((S1.out.alloc _).alloc _).alloc _) hb
          have S2' : Hid (Sl w1 A2 l2 c2) := Sl.below (((S2.out.alloc _).alloc _).alloc _) hb
          have S3' : Hid (Sl w1 A3 l3 c3) := Sl.below (((S3.out.alloc _).alloc _).alloc _) hb
          have S4' : Hid (Sl w1 A4 l4 c4) := Sl.below (((S4.out.alloc _).alloc _).alloc _) hb
          have B' : Hid (Below w.heap.size w w1) := below_mono (below_mono (below_mono (below_mono B.out (blw1 _ _)) (blw1 _ _)) (blw1 _ _)) hb
          clear hb S1 S2 S3 S4 B
          have Ka := Ka'
          have Kb := Kb'
          have Fo := Fo'
          have Ko := Ko'
          have S1 := S1'
          have S2 := S2'
          have S3 := S3'
          have S4 := S4'
          have B := B'
          clear Ka' Kb' Fo' Ko' S1' S2' S3' S4' B'
          (try dsimp only at hs5)
          (try dsimp only)
          have S5 : Hid (Sl w1 A5 l5 c5) := hs5
          clear hs5
          obtain ⟨qa0, qa1, qa2, qa3⟩ := Ka.out
          obtain ⟨qb0, qb1, qb2, qb3⟩ := Kb.out
          obtain ⟨qo0, qo1, qo2, qo3⟩ := Ko.out
          obtain ⟨fo0, fo1, fo2, fo3⟩ := Fo.out
          have hza : w.heap.size < w1.heap.size := lt_of_cell (a := ⟨w.heap.size, 0, none⟩) Ka.out.1
          have hzb : w.heap.size + 1 < w1.heap.size := lt_of_cell (a := ⟨w.heap.size + 1, 0, none⟩) Kb.out.1
          have hzo : w.heap.size + 1 + 1 < w1.heap.size := lt_of_cell (a := ⟨w.heap.size + 1 + 1, 0, none⟩) Ko.out.1
          have hka5 := hza
          have hkb5 := hzb
          have hko5 := hzo
          go_wp2_with fail
          refine (rmul_any _ _ _ _ _ _ _ _ _ (S3.out.alloc _) (S2.out.alloc _)).mono ?_
          rw [e6.out]
          rintro e w2 ⟨A6, c6, rfl, hs6, hb⟩
          clear qa0 qa1 qa2 qa3 qb0 qb1 qb2 qb3 qo0 qo1 qo2 qo3 fo0 fo1 fo2 fo3
          have Ka' : Hid (Cf w2 w.heap.size n1 A1 l1.length c1 n2 A2 l2.length c2) := Cf.keep (Cf.keep Ka.out (blw1 _ _)) hb
          have Kb' : Hid (Cf w2 (w.heap.size + 1) n3 A3 l3.length c3 n4 A4 l4.length c4) := Cf.keep (Cf.keep Kb.out (blw1 _ _)) hb
          have Fo' : Hid (Ff w2 (w.heap.size + 1 + 1)) := Ff.keep (Ff.keep Fo.out Ko.out (blw1 _ _)) (Cf.keep Ko.out (blw1 _ _)) hb
          have Ko' : Hid (Cf w2 (w.heap.size + 1 + 1) false none 0 0 false none 0 0) := Cf.keep (Cf.keep Ko.out (blw1 _ _)) hb
          have K5' : Hid (Cw w2 w1.heap.size n5 A5 l5.length c5) := Cw.keep (Cw.fresh (by simp) _ _ _ _ _) hb
          have S1' : Hid (Sl w2 A1 l1 c1) := Sl.below (S1.out.alloc _) hb
          have S2' : Hid (Sl w2 A2 l2 c2) := Sl.below (S2.out.alloc _) hb
          have S3' : Hid (Sl w2 A3 l3 c3) := Sl.below (S3.out.alloc _) hb
          have S4' : Hid (Sl w2 A4 l4 c4) := Sl.below (S4.out.alloc _) hb
          have S5' : Hid (Sl w2 A5 l5 c5) := Sl.below (S5.out.alloc _) hb
          have B' : Hid (Below w.heap.size w w2) := below_mono (below_mono B.out (blw1 _ _)) hb
          clear hb Ka Kb Fo Ko S1 S2 S3 S4 S5 B
          have Ka := Ka'
          have Kb := Kb'
          have Fo := Fo'
          have Ko := Ko'
          have K5 := K5'
          have S1 := S1'
          have S2 := S2'
          have S3 := S3'
          have S4 := S4'
          have S5 := S5'
          have B := B'
          clear Ka' Kb' Fo' Ko' K5' S1' S2' S3' S4' S5' B'
          (try dsimp only at hs6)
          (try dsimp only)
          have S6 : Hid (Sl w2 A6 l6 c6) := hs6
          clear hs6
          obtain ⟨qa0, qa1, qa2, qa3⟩ := Ka.out
          obtain ⟨qb0, qb1, qb2, qb3⟩ := Kb.out
          obtain ⟨qo0, qo1, qo2, qo3⟩ := Ko.out
          obtain ⟨fo0, fo1, fo2, fo3⟩ := Fo.out
          replace hza : w.heap.size < w2.heap.size := lt_of_cell (a := ⟨w.heap.size, 0, none⟩) Ka.out.1
          replace hzb : w.heap.size + 1 < w2.heap.size := lt_of_cell (a := ⟨w.heap.size + 1, 0, none⟩) Kb.out.1
          replace hzo : w.heap.size + 1 + 1 < w2.heap.size := lt_of_cell (a := ⟨w.heap.size + 1 + 1, 0, none⟩) Ko.out.1
          have hz5 : w1.heap.size < w2.heap.size := lt_of_cell (a := ⟨w1.heap.size, 0, none⟩) K5.out.1
          have hka6 := hza
          have hkb6 := hzb
          have hko6 := hzo
          have hk56 := hz5
          go_wp2_with fail
          refine (rmul_any _ _ _ _ _ _ _ _ _ (S2.out.alloc _) (S4.out.alloc _)).mono ?_
          rw [e7.out]
          rintro e w3 ⟨A7, c7, rfl, hs7, hb⟩
          clear qa0 qa1 qa2 qa3 qb0 qb1 qb2 qb3 qo0 qo1 qo2 qo3 fo0 fo1 fo2 fo3
          have Ka' : Hid (Cf w3 w.heap.size n1 A1 l1.length c1 n2 A2 l2.length c2) := Cf.keep (Cf.keep Ka.out (blw1 _ _)) hb
          have Kb' : Hid (Cf w3 (w.heap.size + 1) n3 A3 l3.length c3 n4 A4 l4.length c4) := Cf.keep (Cf.keep Kb.out (blw1 _ _)) hb
          have Fo' : Hid (Ff w3 (w.heap.size + 1 + 1)) := Ff.keep (Ff.keep Fo.out Ko.out (blw1 _ _)) (Cf.keep Ko.out (blw1 _ _)) hb
          have Ko' : Hid (Cf w3 (w.heap.size + 1 + 1) false none 0 0 false none 0 0) := Cf.keep (Cf.keep Ko.out (blw1 _ _)) hb
          have K5' : Hid (Cw w3 w1.heap.size n5 A5 l5.length c5) := Cw.keep (Cw.keep K5.out (blw1 _ _)) hb
          have K6' : Hid (Cw w3 w2.heap.size n6 A6 l6.length c6) := Cw.keep (Cw.fresh (by simp) _ _ _ _ _) hb
          have S1' : Hid (Sl w3 A1 l1 c1) := Sl.below (S1.out.alloc _) hb
          have S2' : Hid (Sl w3 A2 l2 c2) := Sl.below (S2.out.alloc _) hb
          have S3' : Hid (Sl w3 A3 l3 c3) := Sl.below (S3.out.alloc _) hb
          have S4' : Hid (Sl w3 A4 l4 c4) := Sl.below (S4.out.alloc _) hb
          have S5' : Hid (Sl w3 A5 l5 c5) := Sl.below (S5.out.alloc _) hb
          have S6' : Hid (Sl w3 A6 l6 c6) := Sl.below (S6.out.alloc _) hb
          have B' : Hid (Below w.heap.size w w3) := below_mono (below_mono B.out (blw1 _ _)) hb
          clear hb Ka Kb Fo Ko K5 S1 S2 S3 S4 S5 S6 B
          have Ka := Ka'
          have Kb := Kb'
          have Fo := Fo'
          have Ko := Ko'
          have K5 := K5'
          have K6 := K6'
          have S1 := S1'
          have S2 := S2'
          have S3 := S3'
          have S4 := S4'
          have S5 := S5'
          have S6 := S6'
          have B := B'
          clear Ka' Kb' Fo' Ko' K5' K6' S1' S2' S3' S4' S5' S6' B'
          (try dsimp only at hs7)
          (try dsimp only)
          have S7 : Hid (Sl w3 A7 l7 c7) := hs7
          clear hs7
          obtain ⟨qa0, qa1, qa2, qa3⟩ := Ka.out
          obtain ⟨qb0, qb1, qb2, qb3⟩ := Kb.out
          obtain ⟨qo0, qo1, qo2, qo3⟩ := Ko.out
          obtain ⟨fo0, fo1, fo2, fo3⟩ := Fo.out
          obtain ⟨q50, q51⟩ := K5.out
          obtain ⟨q60, q61⟩ := K6.out
          replace hza : w.heap.size < w3.heap.size := lt_of_cell (a := ⟨w.heap.size, 0, none⟩) Ka.out.1
          replace hzb : w.heap.size + 1 < w3.heap.size := lt_of_cell (a := ⟨w.heap.size + 1, 0, none⟩) Kb.out.1
          replace hzo : w.heap.size + 1 + 1 < w3.heap.size := lt_of_cell (a := ⟨w.heap.size + 1 + 1, 0, none⟩) Ko.out.1
          replace hz5 : w1.heap.size < w3.heap.size := lt_of_cell (a := ⟨w1.heap.size, 0, none⟩) K5.out.1
          have hz6 : w2.heap.size < w3.heap.size := lt_of_cell (a := ⟨w2.heap.size, 0, none⟩) K6.out.1
          have hka7 := hza
          have hkb7 := hzb
          have hko7 := hzo
          have hk57 := hz5
          have hk67 := hz6
          go_wp2_with fail
          refine (radd_any _ _ _ _ _ _ _ _ _ (S5.out.alloc _) (S6.out.alloc _)).mono ?_
          rw [e8.out]
          rintro e w4 ⟨A8, c8, rfl, hs8, hb⟩
          clear qa0 qa1 qa2 qa3 qb0 qb1 qb2 qb3 qo0 qo1 qo2 qo3 fo0 fo1 fo2 fo3 q50 q51 q60 q61
          have Ka' : Hid (Cf w4 w.heap.size n1 A1 l1.length c1 n2 A2 l2.length c2) := Cf.keep (Cf.keep Ka.out (blw1 _ _)) hb
          have Kb' : Hid (Cf w4 (w.heap.size + 1) n3 A3 l3.length c3 n4 A4 l4.length c4) := Cf.keep (Cf.keep Kb.out (blw1 _ _)) hb
          have Fo' : Hid (Ff w4 (w.heap.size + 1 + 1)) := Ff.keep (Ff.keep Fo.out Ko.out (blw1 _ _)) (Cf.keep Ko.out (blw1 _ _)) hb
          have Ko' : Hid (Cf w4 (w.heap.size + 1 + 1) false none 0 0 false none 0 0) := Cf.keep (Cf.keep Ko.out (blw1 _ _)) hb
          have K5' : Hid (Cw w4 w1.heap.size n5 A5 l5.length c5) := Cw.keep (Cw.keep K5.out (blw1 _ _)) hb
          have K6' : Hid (Cw w4 w2.heap.size n6 A6 l6.length c6) := Cw.keep (Cw.keep K6.out (blw1 _ _)) hb
          have K7' : Hid (Cw w4 w3.heap.size n7 A7 l7.length c7) := Cw.keep (Cw.fresh (by simp) _ _ _ _ _) hb
          have S1' : Hid (Sl w4 A1 l1 c1) := Sl.below (S1.out.alloc _) hb
          have S2' : Hid (Sl w4 A2 l2 c2) := Sl.below (S2.out.alloc _) hb
          have S3' : Hid (Sl w4 A3 l3 c3) := Sl.below (S3.out.alloc _) hb
          have S4' : Hid (Sl w4 A4 l4 c4) := Sl.below (S4.out.alloc _) hb
          have S5' : Hid (Sl w4 A5 l5 c5) := Sl.below (S5.out.alloc _) hb
          have S6' : Hid (Sl w4 A6 l6 c6) := Sl.below (S6.out.alloc _) hb
          have S7' : Hid (Sl w4 A7 l7 c7) := Sl.below (S7.out.alloc _) hb
          have B' : Hid (Below w.heap.size w w4) := below_mono (below_mono B.out (blw1 _ _)) hb
          clear hb Ka Kb Fo Ko K5 K6 S1 S2 S3 S4 S5 S6 S7 B
          have Ka := Ka'
          have Kb := Kb'
          have Fo := Fo'
          have Ko := Ko'
          have K5 := K5'
          have K6 := K6'
          have K7 := K7'
          have S1 := S1'
          have S2 := S2'
          have S3 := S3'
          have S4 := S4'
          have S5 := S5'
          have S6 := S6'
          have S7 := S7'
          have B := B'
          clear Ka' Kb' Fo' Ko' K5' K6' K7' S1' S2' S3' S4' S5' S6' S7' B'
          (try dsimp only at hs8)
          (try dsimp only)
          have S8 : Hid (Sl w4 A8 l8 c8) := hs8
          clear hs8
          obtain ⟨qa0, qa1, qa2, qa3⟩ := Ka.out
          obtain ⟨qb0, qb1, qb2, qb3⟩ := Kb.out
          obtain ⟨qo0, qo1, qo2, qo3⟩ := Ko.out
          obtain ⟨fo0, fo1, fo2, fo3⟩ := Fo.out
          obtain ⟨q50, q51⟩ := K5.out
          obtain ⟨q60, q61⟩ := K6.out
          obtain ⟨q70, q71⟩ := K7.out
          replace hza : w.heap.size < w4.heap.size := lt_of_cell (a := ⟨w.heap.size, 0, none⟩) Ka.out.1
          replace hzb : w.heap.size + 1 < w4.heap.size := lt_of_cell (a := ⟨w.heap.size + 1, 0, none⟩) Kb.out.1
          replace hzo : w.heap.size + 1 + 1 < w4.heap.size := lt_of_cell (a := ⟨w.heap.size + 1 + 1, 0, none⟩) Ko.out.1
          replace hz5 : w1.heap.size < w4.heap.size := lt_of_cell (a := ⟨w1.heap.size, 0, none⟩) K5.out.1
          replace hz6 : w2.heap.size < w4.heap.size := lt_of_cell (a := ⟨w2.heap.size, 0, none⟩) K6.out.1
          have hz7 : w3.heap.size < w4.heap.size := lt_of_cell (a := ⟨w3.heap.size, 0, none⟩) K7.out.1
          have hka8 := hza
          have hkb8 := hzb
          have hko8 := hzo
          have hk58 := hz5
          have hk68 := hz6
          have hk78 := hz7
          go_wp2_with fail
          refine (rsub_any _ _ _ _ _ _ _ _ _ (S5.out.alloc _) (S6.out.alloc _)).mono ?_
          rw [e9.out]
          rintro e w5 ⟨A9', c9', rfl, hs9, hb⟩
          clear qa0 qa1 qa2 qa3 qb0 qb1 qb2 qb3 qo0 qo1 qo2 qo3 fo0 fo1 fo2 fo3 q50 q51 q60 q61 q70 q71
          have Ka' : Hid (Cf w5 w.heap.size n1 A1 l1.length c1 n2 A2 l2.length c2) := Cf.keep (Cf.keep Ka.out (blw1 _ _)) hb
          have Kb' : Hid (Cf w5 (w.heap.size + 1) n3 A3 l3.length c3 n4 A4 l4.length c4) := Cf.keep (Cf.keep Kb.out (blw1 _ _)) hb
          have Fo' : Hid (Ff w5 (w.heap.size + 1 + 1)) := Ff.keep (Ff.keep Fo.out Ko.out (blw1 _ _)) (Cf.keep Ko.out (blw1 _ _)) hb
          have Ko' : Hid (Cf w5 (w.heap.size + 1 + 1) false none 0 0 false none 0 0) := Cf.keep (Cf.keep Ko.out (blw1 _ _)) hb
          have K5' : Hid (Cw w5 w1.heap.size n5 A5 l5.length c5) := Cw.keep (Cw.keep K5.out (blw1 _ _)) hb
          have K6' : Hid (Cw w5 w2.heap.size n6 A6 l6.length c6) := Cw.keep (Cw.keep K6.out (blw1 _ _)) hb
          have K7' : Hid (Cw w5 w3.heap.size n7 A7 l7.length c7) := Cw.keep (Cw.keep K7.out (blw1 _ _)) hb
          have F8' : Hid (Fw w5 w4.heap.size) := Fw.keep (Fw.fresh (by simp) _ _) (Cw.fresh (by simp) _ _ _ _ _) hb
          have K8' : Hid (Cw w5 w4.heap.size n8 A8 l8.length c8) := Cw.keep (Cw.fresh (by simp) _ _ _ _ _) hb
          have S1' : Hid (Sl w5 A1 l1 c1) := Sl.below (S1.out.alloc _) hb
          have S2' : Hid (Sl w5 A2 l2 c2) := Sl.below (S2.out.alloc _) hb
          have S3' : Hid (Sl w5 A3 l3 c3) := Sl.below (S3.out.alloc _) hb
          have S4' : Hid (Sl w5 A4 l4 c4) := Sl.below (S4.out.alloc _) hb
          have S5' : Hid (Sl w5 A5 l5 c5) := Sl.below (S5.out.alloc _) hb
          have S6' : Hid (Sl w5 A6 l6 c6) := Sl.below (S6.out.alloc _) hb
          have S7' : Hid (Sl w5 A7 l7 c7) := Sl.below (S7.out.alloc _) hb
          have S8' : Hid (Sl w5 A8 l8 c8) := Sl.below (S8.out.alloc _) hb
          have B' : Hid (Below w.heap.size w w5) := below_mono (below_mono B.out (blw1 _ _)) hb
          clear hb Ka Kb Fo Ko K5 K6 K7 S1 S2 S3 S4 S5 S6 S7 S8 B
          have Ka := Ka'
          have Kb := Kb'
          have Fo := Fo'
          have Ko := Ko'
          have K5 := K5'
          have K6 := K6'
          have K7 := K7'
          have F8 := F8'
          have K8 := K8'
          have S1 := S1'
          have S2 := S2'
          have S3 := S3'
          have S4 := S4'
          have S5 := S5'
          have S6 := S6'
          have S7 := S7'
          have S8 := S8'
          have B := B'
          clear Ka' Kb' Fo' Ko' K5' K6' K7' F8' K8' S1' S2' S3' S4' S5' S6' S7' S8' B'
          (try dsimp only at hs9)
          (try dsimp only)
          have S9 : Hid (Sl w5 A9' l9 c9') := hs9
          clear hs9
          obtain ⟨qo0, qo1, qo2, qo3⟩ := Ko.out
          obtain ⟨fo0, fo1, fo2, fo3⟩ := Fo.out
          obtain ⟨q70, q71⟩ := K7.out
          obtain ⟨q80, q81⟩ := K8.out
          obtain ⟨f80, f81⟩ := F8.out
          replace hza : w.heap.size < w5.heap.size := lt_of_cell (a := ⟨w.heap.size, 0, none⟩) Ka.out.1
          replace hzb : w.heap.size + 1 < w5.heap.size := lt_of_cell (a := ⟨w.heap.size + 1, 0, none⟩) Kb.out.1
          replace hzo : w.heap.size + 1 + 1 < w5.heap.size := lt_of_cell (a := ⟨w.heap.size + 1 + 1, 0, none⟩) Ko.out.1
          replace hz5 : w1.heap.size < w5.heap.size := lt_of_cell (a := ⟨w1.heap.size, 0, none⟩) K5.out.1
          replace hz6 : w2.heap.size < w5.heap.size := lt_of_cell (a := ⟨w2.heap.size, 0, none⟩) K6.out.1
          replace hz7 : w3.heap.size < w5.heap.size := lt_of_cell (a := ⟨w3.heap.size, 0, none⟩) K7.out.1
          have hz8 : w4.heap.size < w5.heap.size := lt_of_cell (a := ⟨w4.heap.size, 0, none⟩) K8.out.1
          go_wp2_with fail
          refine (HR.out _ _ _ _ _ (S9.out.setW K8.out.1 K8.out.2 _ _) (S7.out.setW K8.out.1 K8.out.2 _ _)).mono ?_
          rintro e w6 ⟨A9, c9, B9, d9, rfl, hsx, hsy, hb⟩
          clear qo0 qo1 qo2 qo3 fo0 fo1 fo2 fo3 q70 q71 q80 q81 f80 f81
          have Ka' : Hid (Cf w6 w.heap.size n1 A1 l1.length c1 n2 A2 l2.length c2) := Cf.keep (Cf.setW Ka.out (by omega) _ _) hb
          have Kb' : Hid (Cf w6 (w.heap.size + 1) n3 A3 l3.length c3 n4 A4 l4.length c4) := Cf.keep (Cf.setW Kb.out (by omega) _ _) hb
          have Fo' : Hid (Ff w6 (w.heap.size + 1 + 1)) := Ff.keep (Ff.setW Fo.out _ _) (Cf.setW Ko.out (by omega) _ _) hb
          have Ko' : Hid (Cf w6 (w.heap.size + 1 + 1) false none 0 0 false none 0 0) := Cf.keep (Cf.setW Ko.out (by omega) _ _) hb
          have K5' : Hid (Cw w6 w1.heap.size n5 A5 l5.length c5) := Cw.keep (Cw.setW K5.out (by omega) _ _) hb
          have K6' : Hid (Cw w6 w2.heap.size n6 A6 l6.length c6) := Cw.keep (Cw.setW K6.out (by omega) _ _) hb
          have K7' : Hid (Cw w6 w3.heap.size n7 A7 l7.length c7) := Cw.keep (Cw.setW K7.out (by omega) _ _) hb
          have F8' : Hid (Fw w6 w4.heap.size) := Fw.keep (Fw.setW F8.out _ _) (Cw.new K8.out) hb
          have K8' : Hid (Cw w6 w4.heap.size n9 A9' l9.length c9') := Cw.keep (Cw.new K8.out) hb
          have S1' : Hid (Sl w6 A1 l1 c1) := Sl.below (S1.out.setW K8.out.1 K8.out.2 _ _) hb
          have S2' : Hid (Sl w6 A2 l2 c2) := Sl.below (S2.out.setW K8.out.1 K8.out.2 _ _) hb
          have S3' : Hid (Sl w6 A3 l3 c3) := Sl.below (S3.out.setW K8.out.1 K8.out.2 _ _) hb
          have S4' : Hid (Sl w6 A4 l4 c4) := Sl.below (S4.out.setW K8.out.1 K8.out.2 _ _) hb
          have S5' : Hid (Sl w6 A5 l5 c5) := Sl.below (S5.out.setW K8.out.1 K8.out.2 _ _) hb
          have S6' : Hid (Sl w6 A6 l6 c6) := Sl.below (S6.out.setW K8.out.1 K8.out.2 _ _) hb
          have S7' : Hid (Sl w6 A7 l7 c7) := Sl.below (S7.out.setW K8.out.1 K8.out.2 _ _) hb
          have S8' : Hid (Sl w6 A8 l8 c8) := Sl.below (S8.out.setW K8.out.1 K8.out.2 _ _) hb
          have S9' : Hid (Sl w6 A9' l9 c9') := Sl.below (S9.out.setW K8.out.1 K8.out.2 _ _) hb
          have B' : Hid (Below w.heap.size w w6) := below_mono (below_setW B.out (by omega) _ _) hb
          clear hb Ka Kb Fo Ko K5 K6 K7 F8 K8 S1 S2 S3 S4 S5 S6 S7 S8 S9 B
          have Ka := Ka'
          have Kb := Kb'
          have Fo := Fo'
          have Ko := Ko'
          have K5 := K5'
          have K6 := K6'
          have K7 := K7'
          have F8 := F8'
          have K8 := K8'
          have S1 := S1'
          have S2 := S2'
          have S3 := S3'
          have S4 := S4'
          have S5 := S5'
          have S6 := S6'
          have S7 := S7'
          have S8 := S8'
          have S9 := S9'
          have B := B'
          clear Ka' Kb' Fo' Ko' K5' K6' K7' F8' K8' S1' S2' S3' S4' S5' S6' S7' S8' S9' B'
          (try dsimp only at hsx hsy)
          (try dsimp only)
          have Sx : Hid (Sl w6 A9 la c9) := hsx
          clear hsx
          have Sy : Hid (Sl w6 B9 lb d9) := hsy
          clear hsy
          obtain ⟨qo0, qo1, qo2, qo3⟩ := Ko.out
          obtain ⟨fo0, fo1, fo2, fo3⟩ := Fo.out
          replace hza : w.heap.size < w6.heap.size := lt_of_cell (a := ⟨w.heap.size, 0, none⟩) Ka.out.1
          replace hzb : w.heap.size + 1 < w6.heap.size := lt_of_cell (a := ⟨w.heap.size + 1, 0, none⟩) Kb.out.1
          replace hzo : w.heap.size + 1 + 1 < w6.heap.size := lt_of_cell (a := ⟨w.heap.size + 1 + 1, 0, none⟩) Ko.out.1
          replace hz5 : w1.heap.size < w6.heap.size := lt_of_cell (a := ⟨w1.heap.size, 0, none⟩) K5.out.1
          replace hz6 : w2.heap.size < w6.heap.size := lt_of_cell (a := ⟨w2.heap.size, 0, none⟩) K6.out.1
          replace hz7 : w3.heap.size < w6.heap.size := lt_of_cell (a := ⟨w3.heap.size, 0, none⟩) K7.out.1
          replace hz8 : w4.heap.size < w6.heap.size := lt_of_cell (a := ⟨w4.heap.size, 0, none⟩) K8.out.1
          go_wp2_with fail
          exact bodyPost_ret (v := .tuple #[.agg #[.bool na, .slice A9 la.length c9, .bool nb, .slice B9 lb.length d9], .int .i64 0]) (by simp [results, Try.results48, go_sem, qo0, qo1, qo2, qo3]) rfl (fres_store4 (r := ((na, la), (nb, lb))) 0 Sx.out Sy.out Ko.out B.out (by omega) _ _ _ _)

end Go.Proofs.Ythlfidbhldbedaa
/- Walks: the reference's both, added, product, Add, Sub, Mul, Div. -/
namespace Go.Proofs.Ythlfidbhldbedaa
open Go.RowKit
attribute [local go_sem ↓] Go.wp_at_zero Go.wp_at_succ
set_option maxRecDepth 100000 in
set_option maxHeartbeats 2000000 in
theorem raddF_any (n1 n2 n3 n4 : Bool) (A1 A2 A3 A4 : Option Addr) (l1 l2 l3 l4 : List Nat) (c1 c2 c3 c4 : Nat) (w : World) (hs1 : Sl w A1 l1 c1) (hs2 : Sl w A2 l2 c2) (hs3 : Sl w A3 l3 c3) (hs4 : Sl w A4 l4 c4) :
    Calls Try.prog 15 #[.agg #[.bool n1, .slice A1 l1.length c1, .bool n2, .slice A2 l2.length c2], .agg #[.bool n3, .slice A3 l3.length c3, .bool n4, .slice A4 l4.length c4]] w (FRes (bothF n1 l1 n2 l2 n3 l3 n4 l4 addV) w) := by
  have S1 := Lib.hid hs1
  have S2 := Lib.hid hs2
  have S3 := Lib.hid hs3
  have S4 := Lib.hid hs4
  have B : Hid (Below w.heap.size w w) := Below.refl _ _
  cases hb : badF n1 l1 n2 l2 || badF n3 l3 n4 l4 with
  | true =>
    have hr : bothF n1 l1 n2 l2 n3 l3 n4 l4 addV = (zF, 8) := by unfold bothF; rw [hb]; rfl
    have e1 : Hid (bothK n1 l1 n2 l2 n3 l3 n4 l4 = 8) := by unfold bothK; rw [hb]; rfl
    rw [hr]
    clear hr hb hs1 hs2 hs3 hs4
    go_enter Try.func15, Try.ntmps15
    go_wp2_with fail
    refine (rboth_any n1 n2 n3 n4 A1 A2 A3 A4 l1 l2 l3 l4 c1 c2 c3 c4 _ (((S1.out.alloc _).alloc _).alloc _) (((S2.out.alloc _).alloc _).alloc _) (((S3.out.alloc _).alloc _).alloc _) (((S4.out.alloc _).alloc _).alloc _)).mono ?_
    rw [e1.out]
    rintro e w1 ⟨rfl, hb⟩
    have Ka' : Hid (Cf w1 w.heap.size n1 A1 l1.length c1 n2 A2 l2.length c2) := Cf.keep (Cf.keep (Cf.keep (Cf.fresh (by simp) _ _ _ _ _ _ _ _ _) (blw1 _ _)) (blw1 _ _)) hb
    have Kb' : Hid (Cf w1 (w.heap.size + 1) n3 A3 l3.length c3 n4 A4 l4.length c4) := Cf.keep (Cf.keep (Cf.fresh (by simp) _ _ _ _ _ _ _ _ _) (blw1 _ _)) hb
    have Fo' : Hid (Ff w1 (w.heap.size + 1 + 1)) := Ff.keep (Ff.fresh (by simp) _ _) (Cf.fresh (by simp) _ _ _ _ _ _ _ _ _) hb
    have Ko' : Hid (Cf w1 (w.heap.size + 1 + 1) false none 0 0 false none 0 0) := Cf.keep (Cf.fresh (by simp) _ _ _ _ _ _ _ _ _) hb
    have S1' : Hid (Sl w1 A1 l1 c1) := Sl.below (((S1.out.alloc _).alloc _).alloc _) hb
    have S2' : Hid (Sl w1 A2 l2 c2) := Sl.below (((S2.out.alloc _).alloc _).alloc _) hb
    have S3' : Hid (Sl w1 A3 l3 c3) := Sl.below (((S3.out.alloc _).alloc _).alloc _) hb
    have S4' : Hid (Sl w1 A4 l4 c4) := Sl.below (((S4.out.alloc _).alloc _).alloc _) hb
    have B' : Hid (Below w.heap.size w w1) := below_mono (below_mono (below_mono (below_mono B.out (blw1 _ _)) (blw1 _ _)) (blw1 _ _)) hb
    clear hb S1 S2 S3 S4 B
    have Ka := Ka'
    have Kb := Kb'
    have Fo := Fo'
    have Ko := Ko'
    have S1 := S1'
    have S2 := S2'
    have S3 := S3'
    have S4 := S4'
    have B := B'
    clear Ka' Kb' Fo' Ko' S1' S2' S3' S4' B'
    obtain ⟨qa0, qa1, qa2, qa3⟩ := Ka.out
    obtain ⟨qb0, qb1, qb2, qb3⟩ := Kb.out
    obtain ⟨qo0, qo1, qo2, qo3⟩ := Ko.out
    obtain ⟨fo0, fo1, fo2, fo3⟩ := Fo.out
    have hza : w.heap.size < w1.heap.size := lt_of_cell (a := ⟨w.heap.size, 0, none⟩) Ka.out.1
    have hzb : w.heap.size + 1 < w1.heap.size := lt_of_cell (a := ⟨w.heap.size + 1, 0, none⟩) Kb.out.1
    have hzo : w.heap.size + 1 + 1 < w1.heap.size := lt_of_cell (a := ⟨w.heap.size + 1 + 1, 0, none⟩) Ko.out.1
    go_wp2_with fail
    refine (rboth_any n1 n2 n3 n4 A1 A2 A3 A4 l1 l2 l3 l4 c1 c2 c3 c4 _ S1.out S2.out S3.out S4.out).mono ?_
    rw [e1.out]
    rintro e w2 ⟨rfl, hb⟩
    clear qa0 qa1 qa2 qa3 qb0 qb1 qb2 qb3 qo0 qo1 qo2 qo3 fo0 fo1 fo2 fo3
    have Ka' : Hid (Cf w2 w.heap.size n1 A1 l1.length c1 n2 A2 l2.length c2) := Cf.keep Ka.out hb
    have Kb' : Hid (Cf w2 (w.heap.size + 1) n3 A3 l3.length c3 n4 A4 l4.length c4) := Cf.keep Kb.out hb
    have Fo' : Hid (Ff w2 (w.heap.size + 1 + 1)) := Ff.keep Fo.out Ko.out hb
    have Ko' : Hid (Cf w2 (w.heap.size + 1 + 1) false none 0 0 false none 0 0) := Cf.keep Ko.out hb
    have S1' : Hid (Sl w2 A1 l1 c1) := Sl.below S1.out hb
    have S2' : Hid (Sl w2 A2 l2 c2) := Sl.below S2.out hb
    have S3' : Hid (Sl w2 A3 l3 c3) := Sl.below S3.out hb
    have S4' : Hid (Sl w2 A4 l4 c4) := Sl.below S4.out hb
    have B' : Hid (Below w.heap.size w w2) := below_mono B.out hb
    clear hb Ka Kb Fo Ko S1 S2 S3 S4 B
    have Ka := Ka'
    have Kb := Kb'
    have Fo := Fo'
    have Ko := Ko'
    have S1 := S1'
    have S2 := S2'
    have S3 := S3'
    have S4 := S4'
    have B := B'
    clear Ka' Kb' Fo' Ko' S1' S2' S3' S4' B'
    obtain ⟨qa0, qa1, qa2, qa3⟩ := Ka.out
    obtain ⟨qb0, qb1, qb2, qb3⟩ := Kb.out
    obtain ⟨qo0, qo1, qo2, qo3⟩ := Ko.out
    obtain ⟨fo0, fo1, fo2, fo3⟩ := Fo.out
    replace hza : w.heap.size < w2.heap.size := lt_of_cell (a := ⟨w.heap.size, 0, none⟩) Ka.out.1
    replace hzb : w.heap.size + 1 < w2.heap.size := lt_of_cell (a := ⟨w.heap.size + 1, 0, none⟩) Kb.out.1
    replace hzo : w.heap.size + 1 + 1 < w2.heap.size := lt_of_cell (a := ⟨w.heap.size + 1 + 1, 0, none⟩) Ko.out.1
    go_wp2
    exact bodyPost_ret (v := .tuple #[.agg #[.bool false, .slice none 0 0, .bool false, .slice none 0 0], .int .i64 8]) (by simp [results, Try.results15, go_sem, qo0, qo1, qo2, qo3]) rfl (fres_store4 (r := zF) 8 (Sl.nil _ none 0) (Sl.nil _ none 0) Ko.out B.out (by omega) _ _ _ _)
  | false =>
    obtain ⟨hb1, hb2⟩ := Bool.or_eq_false_iff.1 hb
    have va := vf_of hs1.lim hs2.lim hb1
    have vb := vf_of hs3.lim hs4.lim hb2
    have e1 : Hid (bothK n1 l1 n2 l2 n3 l3 n4 l4 = 0) := by unfold bothK; rw [hb]; rfl
    rw [both_good va vb]
    obtain ⟨h1, h2, hp1, _⟩ := va
    obtain ⟨h3, h4, hp2, _⟩ := vb
    generalize zv n1 l1 = x1 at *
    generalize zv n2 l2 = y1 at *
    generalize zv n3 l3 = x2 at *
    generalize zv n4 l4 = y2 at *
    obtain ⟨⟨⟨⟨na, la⟩, ⟨nb, lb⟩⟩, k⟩, hr⟩ : ∃ r, r = addV x1 y1 x2 y2 := ⟨_, rfl⟩
    have HP : Hid (∀ W, Sl W A1 l1 c1 → Sl W A2 l2 c2 → Sl W A3 l3 c3 → Sl W A4 l4 c4 → Calls Try.prog 48 #[.agg #[.bool n1, .slice A1 l1.length c1, .bool n2, .slice A2 l2.length c2], .agg #[.bool n3, .slice A3 l3.length c3, .bool n4, .slice A4 l4.length c4], .bool false] W (FRes (((na, la), (nb, lb)), k) W)) := fun W a b c d => by rw [hr]; exact radded_add n1 n2 n3 n4 A1 A2 A3 A4 l1 l2 l3 l4 c1 c2 c3 c4 x1 y1 x2 y2 h1 h2 h3 h4 (Int.mul_ne_zero (by omega) (by omega)) W a b c d
    rw [← hr]
    clear hr hb hb1 hb2 h1 h2 h3 h4 hp1 hp2 hs1 hs2 hs3 hs4
    go_enter Try.func15, Try.ntmps15
    go_wp2_with fail
    refine (rboth_any n1 n2 n3 n4 A1 A2 A3 A4 l1 l2 l3 l4 c1 c2 c3 c4 _ (((S1.out.alloc _).alloc _).alloc _) (((S2.out.alloc _).alloc _).alloc _) (((S3.out.alloc _).alloc _).alloc _) (((S4.out.alloc _).alloc _).alloc _)).mono ?_
    rw [e1.out]
    rintro e w1 ⟨rfl, hb⟩
    have Ka' : Hid (Cf w1 w.heap.size n1 A1 l1.length c1 n2 A2 l2.length c2) := Cf.keep (Cf.keep (Cf.keep (Cf.fresh (by simp) _ _ _ _ _ _ _ _ _) (blw1 _ _)) (blw1 _ _)) hb
    have Kb' : Hid (Cf w1 (w.heap.size + 1) n3 A3 l3.length c3 n4 A4 l4.length c4) := Cf.keep (Cf.keep (Cf.fresh (by simp) _ _ _ _ _ _ _ _ _) (blw1 _ _)) hb
    have Fo' : Hid (Ff w1 (w.heap.size + 1 + 1)) := Ff.keep (Ff.fresh (by simp) _ _) (Cf.fresh (by simp) _ _ _ _ _ _ _ _ _) hb
    have Ko' : Hid (Cf w1 (w.heap.size + 1 + 1) false none 0 0 false none 0 0) := Cf.keep (Cf.fresh (by simp) _ _ _ _ _ _ _ _ _) hb
    have S1' : Hid (Sl w1 A1 l1 c1) := Sl.below (((S1.out.alloc _).alloc _).alloc _) hb
    have S2' : Hid (Sl w1 A2 l2 c2) := Sl.below (((S2.out.alloc _).alloc _).alloc _) hb
    have S3' : Hid (Sl w1 A3 l3 c3) := Sl.below (((S3.out.alloc _).alloc _).alloc _) hb
    have S4' : Hid (Sl w1 A4 l4 c4) := Sl.below (((S4.out.alloc _).alloc _).alloc _) hb
    have B' : Hid (Below w.heap.size w w1) := below_mono (below_mono (below_mono (below_mono B.out (blw1 _ _)) (blw1 _ _)) (blw1 _ _)) hb
    clear hb S1 S2 S3 S4 B
    have Ka := Ka'
    have Kb := Kb'
    have Fo := Fo'
    have Ko := Ko'
    have S1 := S1'
    have S2 := S2'
    have S3 := S3'
    have S4 := S4'
    have B := B'
    clear Ka' Kb' Fo' Ko' S1' S2' S3' S4' B'
    obtain ⟨qa0, qa1, qa2, qa3⟩ := Ka.out
    obtain ⟨qb0, qb1, qb2, qb3⟩ := Kb.out
    obtain ⟨qo0, qo1, qo2, qo3⟩ := Ko.out
    obtain ⟨fo0, fo1, fo2, fo3⟩ := Fo.out
    have hza : w.heap.size < w1.heap.size := lt_of_cell (a := ⟨w.heap.size, 0, none⟩) Ka.out.1
    have hzb : w.heap.size + 1 < w1.heap.size := lt_of_cell (a := ⟨w.heap.size + 1, 0, none⟩) Kb.out.1
    have hzo : w.heap.size + 1 + 1 < w1.heap.size := lt_of_cell (a := ⟨w.heap.size + 1 + 1, 0, none⟩) Ko.out.1
    go_wp2_with fail
    refine (HP.out _ S1.out S2.out S3.out S4.out).mono ?_
    rintro e w2 ⟨A9, c9, B9, d9, rfl, hsx, hsy, hb⟩
    clear qa0 qa1 qa2 qa3 qb0 qb1 qb2 qb3 qo0 qo1 qo2 qo3 fo0 fo1 fo2 fo3
    have Ka' : Hid (Cf w2 w.heap.size n1 A1 l1.length c1 n2 A2 l2.length c2) := Cf.keep Ka.out hb
    have Kb' : Hid (Cf w2 (w.heap.size + 1) n3 A3 l3.length c3 n4 A4 l4.length c4) := Cf.keep Kb.out hb
    have Fo' : Hid (Ff w2 (w.heap.size + 1 + 1)) := Ff.keep Fo.out Ko.out hb
    have Ko' : Hid (Cf w2 (w.heap.size + 1 + 1) false none 0 0 false none 0 0) := Cf.keep Ko.out hb
    have S1' : Hid (Sl w2 A1 l1 c1) := Sl.below S1.out hb
    have S2' : Hid (Sl w2 A2 l2 c2) := Sl.below S2.out hb
    have S3' : Hid (Sl w2 A3 l3 c3) := Sl.below S3.out hb
    have S4' : Hid (Sl w2 A4 l4 c4) := Sl.below S4.out hb
    have B' : Hid (Below w.heap.size w w2) := below_mono B.out hb
    clear hb Ka Kb Fo Ko S1 S2 S3 S4 B
    have Ka := Ka'
    have Kb := Kb'
    have Fo := Fo'
    have Ko := Ko'
    have S1 := S1'
    have S2 := S2'
    have S3 := S3'
    have S4 := S4'
    have B := B'
    clear Ka' Kb' Fo' Ko' S1' S2' S3' S4' B'
    (try dsimp only at hsx hsy)
    (try dsimp only)
    have Sx : Hid (Sl w2 A9 la c9) := hsx
    clear hsx
    have Sy : Hid (Sl w2 B9 lb d9) := hsy
    clear hsy
    obtain ⟨qo0, qo1, qo2, qo3⟩ := Ko.out
    obtain ⟨fo0, fo1, fo2, fo3⟩ := Fo.out
    replace hza : w.heap.size < w2.heap.size := lt_of_cell (a := ⟨w.heap.size, 0, none⟩) Ka.out.1
    replace hzb : w.heap.size + 1 < w2.heap.size := lt_of_cell (a := ⟨w.heap.size + 1, 0, none⟩) Kb.out.1
    replace hzo : w.heap.size + 1 + 1 < w2.heap.size := lt_of_cell (a := ⟨w.heap.size + 1 + 1, 0, none⟩) Ko.out.1
    go_wp2_with fail
    exact bodyPost_ret (v := .tuple #[.agg #[.bool na, .slice A9 la.length c9, .bool nb, .slice B9 lb.length d9], .int .i64 k]) (by simp [results, Try.results15, go_sem, qo0, qo1, qo2, qo3]) rfl (fres_store4 (r := ((na, la), (nb, lb))) k Sx.out Sy.out Ko.out B.out (by omega) _ _ _ _)

set_option maxRecDepth 100000 in
set_option maxHeartbeats 2000000 in
theorem rsubF_any (n1 n2 n3 n4 : Bool) (A1 A2 A3 A4 : Option Addr) (l1 l2 l3 l4 : List Nat) (c1 c2 c3 c4 : Nat) (w : World) (hs1 : Sl w A1 l1 c1) (hs2 : Sl w A2 l2 c2) (hs3 : Sl w A3 l3 c3) (hs4 : Sl w A4 l4 c4) :
    Calls Try.prog 17 #[.agg #[.bool n1, .slice A1 l1.length c1, .bool n2, .slice A2 l2.length c2], .agg #[.bool n3, .slice A3 l3.length c3, .bool n4, .slice A4 l4.length c4]] w (FRes (bothF n1 l1 n2 l2 n3 l3 n4 l4 subV) w) := by
  have S1 := Lib.hid hs1
  have S2 := Lib.hid hs2
  have S3 := Lib.hid hs3
  have S4 := Lib.hid hs4
  have B : Hid (Below w.heap.size w w) := Below.refl _ _
  cases hb : badF n1 l1 n2 l2 || badF n3 l3 n4 l4 with
  | true =>
    have hr : bothF n1 l1 n2 l2 n3 l3 n4 l4 subV = (zF, 8) := by unfold bothF; rw [hb]; rfl
    have e1 : Hid (bothK n1 l1 n2 l2 n3 l3 n4 l4 = 8) := by unfold bothK; rw [hb]; rfl
    rw [hr]
    clear hr hb hs1 hs2 hs3 hs4
    go_enter Try.func17, Try.ntmps17
    go_wp2_with fail
    refine (rboth_any n1 n2 n3 n4 A1 A2 A3 A4 l1 l2 l3 l4 c1 c2 c3 c4 _ (((S1.out.alloc _).alloc _).alloc _) (((S2.out.alloc _).alloc _).alloc _) (((S3.out.alloc _).alloc _).alloc _) (((S4.out.alloc _).alloc _).alloc _)).mono ?_
    rw [e1.out]
    rintro e w1 ⟨rfl, hb⟩
    have Ka' : Hid (Cf w1 w.heap.size n1 A1 l1.length c1 n2 A2 l2.length c2) := Cf.keep (Cf.keep (Cf.keep (Cf.fresh (by simp) _ _ _ _ _ _ _ _ _) (blw1 _ _)) (blw1 _ _)) hb
    have Kb' : Hid (Cf w1 (w.heap.size + 1) n3 A3 l3.length c3 n4 A4 l4.length c4) := Cf.keep (Cf.keep (Cf.fresh (by simp) _ _ _ _ _ _ _ _ _) (blw1 _ _)) hb
    have Fo' : Hid (Ff w1 (w.heap.size + 1 + 1)) := Ff.keep (Ff.fresh (by simp) _ _) (Cf.fresh (by simp) _ _ _ _ _ _ _ _ _) hb
    have Ko' : Hid (Cf w1 (w.heap.size + 1 + 1) false none 0 0 false none 0 0) := Cf.keep (Cf.fresh (by simp) _ _ _ _ _ _ _ _ _) hb
    have S1' : Hid (Sl w1 A1 l1 c1) := Sl.below (((S1.out.alloc _).alloc _).alloc _) hb
    have S2' : Hid (Sl w1 A2 l2 c2) := Sl.below (((S2.out.alloc _).alloc _).alloc _) hb
    have S3' : Hid (Sl w1 A3 l3 c3) := Sl.below (((S3.out.alloc _).alloc _).alloc _) hb
    have S4' : Hid (Sl w1 A4 l4 c4) := Sl.below (((S4.out.alloc _).alloc _).alloc _) hb
    have B' : Hid (Below w.heap.size w w1) := below_mono (below_mono (below_mono (below_mono B.out (blw1 _ _)) (blw1 _ _)) (blw1 _ _)) hb
    clear hb S1 S2 S3 S4 B
    have Ka := Ka'
    have Kb := Kb'
    have Fo := Fo'
    have Ko := Ko'
    have S1 := S1'
    have S2 := S2'
    have S3 := S3'
    have S4 := S4'
    have B := B'
    clear Ka' Kb' Fo' Ko' S1' S2' S3' S4' B'
    obtain ⟨qa0, qa1, qa2, qa3⟩ := Ka.out
    obtain ⟨qb0, qb1, qb2, qb3⟩ := Kb.out
    obtain ⟨qo0, qo1, qo2, qo3⟩ := Ko.out
    obtain ⟨fo0, fo1, fo2, fo3⟩ := Fo.out
    have hza : w.heap.size < w1.heap.size := lt_of_cell (a := ⟨w.heap.size, 0, none⟩) Ka.out.1
    have hzb : w.heap.size + 1 < w1.heap.size := lt_of_cell (a := ⟨w.heap.size + 1, 0, none⟩) Kb.out.1
    have hzo : w.heap.size + 1 + 1 < w1.heap.size := lt_of_cell (a := ⟨w.heap.size + 1 + 1, 0, none⟩) Ko.out.1
    go_wp2_with fail
    refine (rboth_any n1 n2 n3 n4 A1 A2 A3 A4 l1 l2 l3 l4 c1 c2 c3 c4 _ S1.out S2.out S3.out S4.out).mono ?_
    rw [e1.out]
    rintro e w2 ⟨rfl, hb⟩
    clear qa0 qa1 qa2 qa3 qb0 qb1 qb2 qb3 qo0 qo1 qo2 qo3 fo0 fo1 fo2 fo3
    have Ka' : Hid (Cf w2 w.heap.size n1 A1 l1.length c1 n2 A2 l2.length c2) := Cf.keep Ka.out hb
    have Kb' : Hid (Cf w2 (w.heap.size + 1) n3 A3 l3.length c3 n4 A4 l4.length c4) := Cf.keep Kb.out hb
    have Fo' : Hid (Ff w2 (w.heap.size + 1 + 1)) := Ff.keep Fo.out Ko.out hb
    have Ko' : Hid (Cf w2 (w.heap.size + 1 + 1) false none 0 0 false none 0 0) := Cf.keep Ko.out hb
    have S1' : Hid (Sl w2 A1 l1 c1) := Sl.below S1.out hb
    have S2' : Hid (Sl w2 A2 l2 c2) := Sl.below S2.out hb
    have S3' : Hid (Sl w2 A3 l3 c3) := Sl.below S3.out hb
    have S4' : Hid (Sl w2 A4 l4 c4) := Sl.below S4.out hb
    have B' : Hid (Below w.heap.size w w2) := below_mono B.out hb
    clear hb Ka Kb Fo Ko S1 S2 S3 S4 B
    have Ka := Ka'
    have Kb := Kb'
    have Fo := Fo'
    have Ko := Ko'
    have S1 := S1'
    have S2 := S2'
    have S3 := S3'
    have S4 := S4'
    have B := B'
    clear Ka' Kb' Fo' Ko' S1' S2' S3' S4' B'
    obtain ⟨qa0, qa1, qa2, qa3⟩ := Ka.out
    obtain ⟨qb0, qb1, qb2, qb3⟩ := Kb.out
    obtain ⟨qo0, qo1, qo2, qo3⟩ := Ko.out
    obtain ⟨fo0, fo1, fo2, fo3⟩ := Fo.out
    replace hza : w.heap.size < w2.heap.size := lt_of_cell (a := ⟨w.heap.size, 0, none⟩) Ka.out.1
    replace hzb : w.heap.size + 1 < w2.heap.size := lt_of_cell (a := ⟨w.heap.size + 1, 0, none⟩) Kb.out.1
    replace hzo : w.heap.size + 1 + 1 < w2.heap.size := lt_of_cell (a := ⟨w.heap.size + 1 + 1, 0, none⟩) Ko.out.1
    go_wp2
    exact bodyPost_ret (v := .tuple #[.agg #[.bool false, .slice none 0 0, .bool false, .slice none 0 0], .int .i64 8]) (by simp [results, Try.results17, go_sem, qo0, qo1, qo2, qo3]) rfl (fres_store4 (r := zF) 8 (Sl.nil _ none 0) (Sl.nil _ none 0) Ko.out B.out (by omega) _ _ _ _)
  | false =>
    obtain ⟨hb1, hb2⟩ := Bool.or_eq_false_iff.1 hb
    have va := vf_of hs1.lim hs2.lim hb1
    have vb := vf_of hs3.lim hs4.lim hb2
    have e1 : Hid (bothK n1 l1 n2 l2 n3 l3 n4 l4 = 0) := by unfold bothK; rw [hb]; rfl
    rw [both_good va vb]
    obtain ⟨h1, h2, hp1, _⟩ := va
    obtain ⟨h3, h4, hp2, _⟩ := vb
    generalize zv n1 l1 = x1 at *
    generalize zv n2 l2 = y1 at *
    generalize zv n3 l3 = x2 at *
    generalize zv n4 l4 = y2 at *
    obtain ⟨⟨⟨⟨na, la⟩, ⟨nb, lb⟩⟩, k⟩, hr⟩ : ∃ r, r = subV x1 y1 x2 y2 := ⟨_, rfl⟩
    have HP : Hid (∀ W, Sl W A1 l1 c1 → Sl W A2 l2 c2 → Sl W A3 l3 c3 → Sl W A4 l4 c4 → Calls Try.prog 48 #[.agg #[.bool n1, .slice A1 l1.length c1, .bool n2, .slice A2 l2.length c2], .agg #[.bool n3, .slice A3 l3.length c3, .bool n4, .slice A4 l4.length c4], .bool true] W (FRes (((na, la), (nb, lb)), k) W)) := fun W a b c d => by rw [hr]; exact radded_sub n1 n2 n3 n4 A1 A2 A3 A4 l1 l2 l3 l4 c1 c2 c3 c4 x1 y1 x2 y2 h1 h2 h3 h4 (Int.mul_ne_zero (by omega) (by omega)) W a b c d
    rw [← hr]
    clear hr hb hb1 hb2 h1 h2 h3 h4 hp1 hp2 hs1 hs2 hs3 hs4
    go_enter Try.func17, Try.ntmps17
    go_wp2_with fail
    refine (rboth_any n1 n2 n3 n4 A1 A2 A3 A4 l1 l2 l3 l4 c1 c2 c3 c4 _ (((S1.out.alloc _).alloc _).alloc _) (((S2.out.alloc _).alloc _).alloc _) (((S3.out.alloc _).alloc _).alloc _) (((S4.out.alloc _).alloc _).alloc _)).mono ?_
    rw [e1.out]
    rintro e w1 ⟨rfl, hb⟩
    have Ka' : Hid (Cf w1 w.heap.size n1 A1 l1.length c1 n2 A2 l2.length c2) := Cf.keep (Cf.keep (Cf.keep (Cf.fresh (by simp) _ _ _ _ _ _ _ _ _) (blw1 _ _)) (blw1 _ _)) hb
    have Kb' : Hid (Cf w1 (w.heap.size + 1) n3 A3 l3.length c3 n4 A4 l4.length c4) := Cf.keep (Cf.keep (Cf.fresh (by simp) _ _ _ _ _ _ _ _ _) (blw1 _ _)) hb
    have Fo' : Hid (Ff w1 (w.heap.size + 1 + 1)) := Ff.keep (Ff.fresh (by simp) _ _) (Cf.fresh (by simp) _ _ _ _ _ _ _ _ _) hb
    have Ko' : Hid (Cf w1 (w.heap.size + 1 + 1) false none 0 0 false none 0 0) := Cf.keep (Cf.fresh (by simp) _ _ _ _ _ _ _ _ _) hb
    have S1' : Hid (Sl w1 A1 l1 c1) := Sl.below (((S1.out.alloc _).alloc _).alloc _) hb
    have S2' : Hid (Sl w1 A2 l2 c2) := Sl.below (((S2.out.alloc _).alloc _).alloc _) hb
    have S3' : Hid (Sl w1 A3 l3 c3) := Sl.below (((S3.out.alloc _).alloc _).alloc _) hb
    have S4' : Hid (Sl w1 A4 l4 c4) := Sl.below (((S4.out.alloc _).alloc _).alloc _) hb
    have B' : Hid (Below w.heap.size w w1) := below_mono (below_mono (below_mono (below_mono B.out (blw1 _ _)) (blw1 _ _)) (blw1 _ _)) hb
    clear hb S1 S2 S3 S4 B
    have Ka := Ka'
    have Kb := Kb'
    have Fo := Fo'
    have Ko := Ko'
    have S1 := S1'
    have S2 := S2'
    have S3 := S3'
    have S4 := S4'
    have B := B'
    clear Ka' Kb' Fo' Ko' S1' S2' S3' S4' B'
    obtain ⟨qa0, qa1, qa2, qa3⟩ := Ka.out
    obtain ⟨qb0, qb1, qb2, qb3⟩ := Kb.out
    obtain ⟨qo0, qo1, qo2, qo3⟩ := Ko.out
    obtain ⟨fo0, fo1, fo2, fo3⟩ := Fo.out
    have hza : w.heap.size < w1.heap.size := lt_of_cell (a := ⟨w.heap.size, 0, none⟩) Ka.out.1
    have hzb : w.heap.size + 1 < w1.heap.size := lt_of_cell (a := ⟨w.heap.size + 1, 0, none⟩) Kb.out.1
    have hzo : w.heap.size + 1 + 1 < w1.heap.size := lt_of_cell (a := ⟨w.heap.size + 1 + 1, 0, none⟩) Ko.out.1
    go_wp2_with fail
    refine (HP.out _ S1.out S2.out S3.out S4.out).mono ?_
    rintro e w2 ⟨A9, c9, B9, d9, rfl, hsx, hsy, hb⟩
    clear qa0 qa1 qa2 qa3 qb0 qb1 qb2 qb3 qo0 qo1 qo2 qo3 fo0 fo1 fo2 fo3
    have Ka' : Hid (Cf w2 w.heap.size n1 A1 l1.length c1 n2 A2 l2.length c2) := Cf.keep Ka.out hb
    have Kb' : Hid (Cf w2 (w.heap.size + 1) n3 A3 l3.length c3 n4 A4 l4.length c4) := Cf.keep Kb.out hb
    have Fo' : Hid (Ff w2 (w.heap.size + 1 + 1)) := Ff.keep Fo.out Ko.out hb
    have Ko' : Hid (Cf w2 (w.heap.size + 1 + 1) false none 0 0 false none 0 0) := Cf.keep Ko.out hb
    have S1' : Hid (Sl w2 A1 l1 c1) := Sl.below S1.out hb
    have S2' : Hid (Sl w2 A2 l2 c2) := Sl.below S2.out hb
    have S3' : Hid (Sl w2 A3 l3 c3) := Sl.below S3.out hb
    have S4' : Hid (Sl w2 A4 l4 c4) := Sl.below S4.out hb
    have B' : Hid (Below w.heap.size w w2) := below_mono B.out hb
    clear hb Ka Kb Fo Ko S1 S2 S3 S4 B
    have Ka := Ka'
    have Kb := Kb'
    have Fo := Fo'
    have Ko := Ko'
    have S1 := S1'
    have S2 := S2'
    have S3 := S3'
    have S4 := S4'
    have B := B'
    clear Ka' Kb' Fo' Ko' S1' S2' S3' S4' B'
    (try dsimp only at hsx hsy)
    (try dsimp only)
    have Sx : Hid (Sl w2 A9 la c9) := hsx
    clear hsx
    have Sy : Hid (Sl w2 B9 lb d9) := hsy
    clear hsy
    obtain ⟨qo0, qo1, qo2, qo3⟩ := Ko.out
    obtain ⟨fo0, fo1, fo2, fo3⟩ := Fo.out
    replace hza : w.heap.size < w2.heap.size := lt_of_cell (a := ⟨w.heap.size, 0, none⟩) Ka.out.1
    replace hzb : w.heap.size + 1 < w2.heap.size := lt_of_cell (a := ⟨w.heap.size + 1, 0, none⟩) Kb.out.1
    replace hzo : w.heap.size + 1 + 1 < w2.heap.size := lt_of_cell (a := ⟨w.heap.size + 1 + 1, 0, none⟩) Ko.out.1
    go_wp2_with fail
    exact bodyPost_ret (v := .tuple #[.agg #[.bool na, .slice A9 la.length c9, .bool nb, .slice B9 lb.length d9], .int .i64 k]) (by simp [results, Try.results17, go_sem, qo0, qo1, qo2, qo3]) rfl (fres_store4 (r := ((na, la), (nb, lb))) k Sx.out Sy.out Ko.out B.out (by omega) _ _ _ _)

set_option maxRecDepth 100000 in
set_option maxHeartbeats 2000000 in
theorem rmulF_any (n1 n2 n3 n4 : Bool) (A1 A2 A3 A4 : Option Addr) (l1 l2 l3 l4 : List Nat) (c1 c2 c3 c4 : Nat) (w : World) (hs1 : Sl w A1 l1 c1) (hs2 : Sl w A2 l2 c2) (hs3 : Sl w A3 l3 c3) (hs4 : Sl w A4 l4 c4) :
    Calls Try.prog 19 #[.agg #[.bool n1, .slice A1 l1.length c1, .bool n2, .slice A2 l2.length c2], .agg #[.bool n3, .slice A3 l3.length c3, .bool n4, .slice A4 l4.length c4]] w (FRes (bothF n1 l1 n2 l2 n3 l3 n4 l4 mulV) w) := by
  have S1 := Lib.hid hs1
  have S2 := Lib.hid hs2
  have S3 := Lib.hid hs3
  have S4 := Lib.hid hs4
  have B : Hid (Below w.heap.size w w) := Below.refl _ _
  cases hb : badF n1 l1 n2 l2 || badF n3 l3 n4 l4 with
  | true =>
    have hr : bothF n1 l1 n2 l2 n3 l3 n4 l4 mulV = (zF, 8) := by unfold bothF; rw [hb]; rfl
    have e1 : Hid (bothK n1 l1 n2 l2 n3 l3 n4 l4 = 8) := by unfold bothK; rw [hb]; rfl
    rw [hr]
    clear hr hb hs1 hs2 hs3 hs4
    go_enter Try.func19, Try.ntmps19
    go_wp2_with fail
    refine (rboth_any n1 n2 n3 n4 A1 A2 A3 A4 l1 l2 l3 l4 c1 c2 c3 c4 _ (((S1.out.alloc _).alloc _).alloc _) (((S2.out.alloc _).alloc _).alloc _) (((S3.out.alloc _).alloc _).alloc _) (((S4.out.alloc _).alloc _).alloc _)).mono ?_
    rw [e1.out]
    rintro e w1 ⟨rfl, hb⟩
    have Ka' : Hid (Cf w1 w.heap.size n1 A1 l1.length c1 n2 A2 l2.length c2) := Cf.keep (Cf.keep (Cf.keep (Cf.fresh (by simp) _ _ _ _ _ _ _ _ _) (blw1 _ _)) (blw1 _ _)) hb
    have Kb' : Hid (Cf w1 (w.heap.size + 1) n3 A3 l3.length c3 n4 A4 l4.length c4) := Cf.keep (Cf.keep (Cf.fresh (by simp) _ _ _ _ _ _ _ _ _) (blw1 _ _)) hb
    have Fo' : Hid (Ff w1 (w.heap.size + 1 + 1)) := Ff.keep (Ff.fresh (by simp) _ _) (Cf.fresh (by simp) _ _ _ _ _ _ _ _ _) hb
    have Ko' : Hid (Cf w1 (w.heap.size + 1 + 1) false none 0 0 false none 0 0) := Cf.keep (Cf.fresh (by simp) _ _ _ _ _ _ _ _ _) hb
    have S1' : Hid (Sl w1 A1 l1 c1) := Sl.below (((S1.out.alloc _).alloc _).alloc _) hb
    have S2' : Hid (Sl w1 A2 l2 c2) := Sl.below (((S2.out.alloc _).alloc _).alloc _) hb
    have S3' : Hid (Sl w1 A3 l3 c3) := Sl.below (((S3.out.alloc _).alloc _).alloc _) hb
    have S4' : Hid (Sl w1 A4 l4 c4) := Sl.below (((S4.out.alloc _).alloc _).alloc _) hb
    have B' : Hid (Below w.heap.size w w1) := below_mono (below_mono (below_mono (below_mono B.out (blw1 _ _)) (blw1 _ _)) (blw1 _ _)) hb
    clear hb S1 S2 S3 S4 B
    have Ka := Ka'
    have Kb := Kb'
    have Fo := Fo'
    have Ko := Ko'
    have S1 := S1'
    have S2 := S2'
    have S3 := S3'
    have S4 := S4'
    have B := B'
    clear Ka' Kb' Fo' Ko' S1' S2' S3' S4' B'
    obtain ⟨qa0, qa1, qa2, qa3⟩ := Ka.out
    obtain ⟨qb0, qb1, qb2, qb3⟩ := Kb.out
    obtain ⟨qo0, qo1, qo2, qo3⟩ := Ko.out
    obtain ⟨fo0, fo1, fo2, fo3⟩ := Fo.out
    have hza : w.heap.size < w1.heap.size := lt_of_cell (a := ⟨w.heap.size, 0, none⟩) Ka.out.1
    have hzb : w.heap.size + 1 < w1.heap.size := lt_of_cell (a := ⟨w.heap.size + 1, 0, none⟩) Kb.out.1
    have hzo : w.heap.size + 1 + 1 < w1.heap.size := lt_of_cell (a := ⟨w.heap.size + 1 + 1, 0, none⟩) Ko.out.1
    go_wp2_with fail
    refine (rboth_any n1 n2 n3 n4 A1 A2 A3 A4 l1 l2 l3 l4 c1 c2 c3 c4 _ S1.out S2.out S3.out S4.out).mono ?_
    rw [e1.out]
    rintro e w2 ⟨rfl, hb⟩
    clear qa0 qa1 qa2 qa3 qb0 qb1 qb2 qb3 qo0 qo1 qo2 qo3 fo0 fo1 fo2 fo3
    have Ka' : Hid (Cf w2 w.heap.size n1 A1 l1.length c1 n2 A2 l2.length c2) := Cf.keep Ka.out hb
    have Kb' : Hid (Cf w2 (w.heap.size + 1) n3 A3 l3.length c3 n4 A4 l4.length c4) := Cf.keep Kb.out hb
    have Fo' : Hid (Ff w2 (w.heap.size + 1 + 1)) := Ff.keep Fo.out Ko.out hb
    have Ko' : Hid (Cf w2 (w.heap.size + 1 + 1) false none 0 0 false none 0 0) := Cf.keep Ko.out hb
    have S1' : Hid (Sl w2 A1 l1 c1) := Sl.below S1.out hb
    have S2' : Hid (Sl w2 A2 l2 c2) := Sl.below S2.out hb
    have S3' : Hid (Sl w2 A3 l3 c3) := Sl.below S3.out hb
    have S4' : Hid (Sl w2 A4 l4 c4) := Sl.below S4.out hb
    have B' : Hid (Below w.heap.size w w2) := below_mono B.out hb
    clear hb Ka Kb Fo Ko S1 S2 S3 S4 B
    have Ka := Ka'
    have Kb := Kb'
    have Fo := Fo'
    have Ko := Ko'
    have S1 := S1'
    have S2 := S2'
    have S3 := S3'
    have S4 := S4'
    have B := B'
    clear Ka' Kb' Fo' Ko' S1' S2' S3' S4' B'
    obtain ⟨qa0, qa1, qa2, qa3⟩ := Ka.out
    obtain ⟨qb0, qb1, qb2, qb3⟩ := Kb.out
    obtain ⟨qo0, qo1, qo2, qo3⟩ := Ko.out
    obtain ⟨fo0, fo1, fo2, fo3⟩ := Fo.out
    replace hza : w.heap.size < w2.heap.size := lt_of_cell (a := ⟨w.heap.size, 0, none⟩) Ka.out.1
    replace hzb : w.heap.size + 1 < w2.heap.size := lt_of_cell (a := ⟨w.heap.size + 1, 0, none⟩) Kb.out.1
    replace hzo : w.heap.size + 1 + 1 < w2.heap.size := lt_of_cell (a := ⟨w.heap.size + 1 + 1, 0, none⟩) Ko.out.1
    go_wp2
    exact bodyPost_ret (v := .tuple #[.agg #[.bool false, .slice none 0 0, .bool false, .slice none 0 0], .int .i64 8]) (by simp [results, Try.results19, go_sem, qo0, qo1, qo2, qo3]) rfl (fres_store4 (r := zF) 8 (Sl.nil _ none 0) (Sl.nil _ none 0) Ko.out B.out (by omega) _ _ _ _)
  | false =>
    obtain ⟨hb1, hb2⟩ := Bool.or_eq_false_iff.1 hb
    have va := vf_of hs1.lim hs2.lim hb1
    have vb := vf_of hs3.lim hs4.lim hb2
    have e1 : Hid (bothK n1 l1 n2 l2 n3 l3 n4 l4 = 0) := by unfold bothK; rw [hb]; rfl
    rw [both_good va vb]
    obtain ⟨h1, h2, hp1, _⟩ := va
    obtain ⟨h3, h4, hp2, _⟩ := vb
    generalize zv n1 l1 = x1 at *
    generalize zv n2 l2 = y1 at *
    generalize zv n3 l3 = x2 at *
    generalize zv n4 l4 = y2 at *
    unfold mulV
    obtain ⟨⟨⟨⟨na, la⟩, ⟨nb, lb⟩⟩, k⟩, hr⟩ : ∃ r, r = outF (fitB (x1 * x2) && fitB (y1 * y2)) (x1 * x2) (y1 * y2) := ⟨_, rfl⟩
    have HP : Hid (∀ W, Sl W A1 l1 c1 → Sl W A2 l2 c2 → Sl W A3 l3 c3 → Sl W A4 l4 c4 → Calls Try.prog 52 #[.agg #[.bool n1, .slice A1 l1.length c1], .agg #[.bool n3, .slice A3 l3.length c3], .agg #[.bool n2, .slice A2 l2.length c2], .agg #[.bool n4, .slice A4 l4.length c4]] W (FRes (((na, la), (nb, lb)), k) W)) := fun W a b c d => by rw [hr]; exact rproduct_any n1 n3 n2 n4 A1 A3 A2 A4 l1 l3 l2 l4 c1 c3 c2 c4 x1 x2 y1 y2 h1 h3 h2 h4 (Int.mul_ne_zero (by omega) (by omega)) W a c b d
    rw [← hr]
    clear hr hb hb1 hb2 h1 h2 h3 h4 hp1 hp2 hs1 hs2 hs3 hs4
    go_enter Try.func19, Try.ntmps19
    go_wp2_with fail
    refine (rboth_any n1 n2 n3 n4 A1 A2 A3 A4 l1 l2 l3 l4 c1 c2 c3 c4 _ (((S1.out.alloc _).alloc _).alloc _) (((S2.out.alloc _).alloc _).alloc _) (((S3.out.alloc _).alloc _).alloc _) (((S4.out.alloc _).alloc _).alloc _)).mono ?_
    rw [e1.out]
    rintro e w1 ⟨rfl, hb⟩
    have Ka' : Hid (Cf w1 w.heap.size n1 A1 l1.length c1 n2 A2 l2.length c2) := Cf.keep (Cf.keep (Cf.keep (Cf.fresh (by simp) _ _ _ _ _ _ _ _ _) (blw1 _ _)) (blw1 _ _)) hb
    have Kb' : Hid (Cf w1 (w.heap.size + 1) n3 A3 l3.length c3 n4 A4 l4.length c4) := Cf.keep (Cf.keep (Cf.fresh (by simp) _ _ _ _ _ _ _ _ _) (blw1 _ _)) hb
    have Fo' : Hid (Ff w1 (w.heap.size + 1 + 1)) := Ff.keep (Ff.fresh (by simp) _ _) (Cf.fresh (by simp) _ _ _ _ _ _ _ _ _) hb
    have Ko' : Hid (Cf w1 (w.heap.size + 1 + 1) false none 0 0 false none 0 0) := Cf.keep (Cf.fresh (by simp) _ _ _ _ _ _ _ _ _) hb
    have S1' : Hid (Sl w1 A1 l1 c1) := Sl.below (((S1.out.alloc _).alloc _).alloc _) hb
    have S2' : Hid (Sl w1 A2 l2 c2) := Sl.below (((S2.out.alloc _).alloc _).alloc _) hb
    have S3' : Hid (Sl w1 A3 l3 c3) := Sl.below (((S3.out.alloc _).alloc _).alloc _) hb
    have S4' : Hid (Sl w1 A4 l4 c4) := Sl.below (((S4.out.alloc _).alloc _).alloc _) hb
    have B' : Hid (Below w.heap.size w w1) := below_mono (below_mono (below_mono (below_mono B.out (blw1 _ _)) (blw1 _ _)) (blw1 _ _)) hb
    clear hb S1 S2 S3 S4 B
    have Ka := Ka'
    have Kb := Kb'
    have Fo := Fo'
    have Ko := Ko'
    have S1 := S1'
    have S2 := S2'
    have S3 := S3'
    have S4 := S4'
    have B := B'
    clear Ka' Kb' Fo' Ko' S1' S2' S3' S4' B'
    obtain ⟨qa0, qa1, qa2, qa3⟩ := Ka.out
    obtain ⟨qb0, qb1, qb2, qb3⟩ := Kb.out
    obtain ⟨qo0, qo1, qo2, qo3⟩ := Ko.out
    obtain ⟨fo0, fo1, fo2, fo3⟩ := Fo.out
    have hza : w.heap.size < w1.heap.size := lt_of_cell (a := ⟨w.heap.size, 0, none⟩) Ka.out.1
    have hzb : w.heap.size + 1 < w1.heap.size := lt_of_cell (a := ⟨w.heap.size + 1, 0, none⟩) Kb.out.1
    have hzo : w.heap.size + 1 + 1 < w1.heap.size := lt_of_cell (a := ⟨w.heap.size + 1 + 1, 0, none⟩) Ko.out.1
    go_wp2_with fail
    refine (HP.out _ S1.out S2.out S3.out S4.out).mono ?_
    rintro e w2 ⟨A9, c9, B9, d9, rfl, hsx, hsy, hb⟩
    clear qa0 qa1 qa2 qa3 qb0 qb1 qb2 qb3 qo0 qo1 qo2 qo3 fo0 fo1 fo2 fo3
    have Ka' : Hid (Cf w2 w.heap.size n1 A1 l1.length c1 n2 A2 l2.length c2) := Cf.keep Ka.out hb
    have Kb' : Hid (Cf w2 (w.heap.size + 1) n3 A3 l3.length c3 n4 A4 l4.length c4) := Cf.keep Kb.out hb
    have Fo' : Hid (Ff w2 (w.heap.size + 1 + 1)) := Ff.keep Fo.out Ko.out hb
    have Ko' : Hid (Cf w2 (w.heap.size + 1 + 1) false none 0 0 false none 0 0) := Cf.keep Ko.out hb
    have S1' : Hid (Sl w2 A1 l1 c1) := Sl.below S1.out hb
    have S2' : Hid (Sl w2 A2 l2 c2) := Sl.below S2.out hb
    have S3' : Hid (Sl w2 A3 l3 c3) := Sl.below S3.out hb
    have S4' : Hid (Sl w2 A4 l4 c4) := Sl.below S4.out hb
    have B' : Hid (Below w.heap.size w w2) := below_mono B.out hb
    clear hb Ka Kb Fo Ko S1 S2 S3 S4 B
    have Ka := Ka'
    have Kb := Kb'
    have Fo := Fo'
    have Ko := Ko'
    have S1 := S1'
    have S2 := S2'
    have S3 := S3'
    have S4 := S4'
    have B := B'
    clear Ka' Kb' Fo' Ko' S1' S2' S3' S4' B'
    (try dsimp only at hsx hsy)
    (try dsimp only)
    have Sx : Hid (Sl w2 A9 la c9) := hsx
    clear hsx
    have Sy : Hid (Sl w2 B9 lb d9) := hsy
    clear hsy
    obtain ⟨qo0, qo1, qo2, qo3⟩ := Ko.out
    obtain ⟨fo0, fo1, fo2, fo3⟩ := Fo.out
    replace hza : w.heap.size < w2.heap.size := lt_of_cell (a := ⟨w.heap.size, 0, none⟩) Ka.out.1
    replace hzb : w.heap.size + 1 < w2.heap.size := lt_of_cell (a := ⟨w.heap.size + 1, 0, none⟩) Kb.out.1
    replace hzo : w.heap.size + 1 + 1 < w2.heap.size := lt_of_cell (a := ⟨w.heap.size + 1 + 1, 0, none⟩) Ko.out.1
    go_wp2_with fail
    exact bodyPost_ret (v := .tuple #[.agg #[.bool na, .slice A9 la.length c9, .bool nb, .slice B9 lb.length d9], .int .i64 k]) (by simp [results, Try.results19, go_sem, qo0, qo1, qo2, qo3]) rfl (fres_store4 (r := ((na, la), (nb, lb))) k Sx.out Sy.out Ko.out B.out (by omega) _ _ _ _)

set_option maxRecDepth 100000 in
set_option maxHeartbeats 2000000 in
theorem rdivF_any (n1 n2 n3 n4 : Bool) (A1 A2 A3 A4 : Option Addr) (l1 l2 l3 l4 : List Nat) (c1 c2 c3 c4 : Nat) (w : World) (hs1 : Sl w A1 l1 c1) (hs2 : Sl w A2 l2 c2) (hs3 : Sl w A3 l3 c3) (hs4 : Sl w A4 l4 c4) :
    Calls Try.prog 21 #[.agg #[.bool n1, .slice A1 l1.length c1, .bool n2, .slice A2 l2.length c2], .agg #[.bool n3, .slice A3 l3.length c3, .bool n4, .slice A4 l4.length c4]] w (FRes (bothF n1 l1 n2 l2 n3 l3 n4 l4 divV) w) := by
  have S1 := Lib.hid hs1
  have S2 := Lib.hid hs2
  have S3 := Lib.hid hs3
  have S4 := Lib.hid hs4
  have B : Hid (Below w.heap.size w w) := Below.refl _ _
  cases hb : badF n1 l1 n2 l2 || badF n3 l3 n4 l4 with
  | true =>
    have hr : bothF n1 l1 n2 l2 n3 l3 n4 l4 divV = (zF, 8) := by unfold bothF; rw [hb]; rfl
    have e1 : Hid (bothK n1 l1 n2 l2 n3 l3 n4 l4 = 8) := by unfold bothK; rw [hb]; rfl
    rw [hr]
    clear hr hb hs1 hs2 hs3 hs4
    go_enter Try.func21, Try.ntmps21
    go_wp2_with fail
    refine (rboth_any n1 n2 n3 n4 A1 A2 A3 A4 l1 l2 l3 l4 c1 c2 c3 c4 _ (((S1.out.alloc _).alloc _).alloc _) (((S2.out.alloc _).alloc _).alloc _) (((S3.out.alloc _).alloc _).alloc _) (((S4.out.alloc _).alloc _).alloc _)).mono ?_
    rw [e1.out]
    rintro e w1 ⟨rfl, hb⟩
    have Ka' : Hid (Cf w1 w.heap.size n1 A1 l1.length c1 n2 A2 l2.length c2) := Cf.keep (Cf.keep (Cf.keep (Cf.fresh (by simp) _ _ _ _ _ _ _ _ _) (blw1 _ _)) (blw1 _ _)) hb
    have Kb' : Hid (Cf w1 (w.heap.size + 1) n3 A3 l3.length c3 n4 A4 l4.length c4) := Cf.keep (Cf.keep (Cf.fresh (by simp) _ _ _ _ _ _ _ _ _) (blw1 _ _)) hb
    have Fo' : Hid (Ff w1 (w.heap.size + 1 + 1)) := Ff.keep (Ff.fresh (by simp) _ _) (Cf.fresh (by simp) _ _ _ _ _ _ _ _ _) hb
    have Ko' : Hid (Cf w1 (w.heap.size + 1 + 1) false none 0 0 false none 0 0) := Cf.keep (Cf.fresh (by simp) _ _ _ _ _ _ _ _ _) hb
    have S1' : Hid (Sl w1 A1 l1 c1) := Sl.below (((S1.out.alloc _).alloc _).alloc _) hb
    have S2' : Hid (Sl w1 A2 l2 c2) := Sl.below (((S2.out.alloc _).alloc _).alloc _) hb
    have S3' : Hid (Sl w1 A3 l3 c3) := Sl.below (((S3.out.alloc _).alloc _).alloc _) hb
    have S4' : Hid (Sl w1 A4 l4 c4) := Sl.below (((S4.out.alloc _).alloc _).alloc _) hb
    have B' : Hid (Below w.heap.size w w1) := below_mono (below_mono (below_mono (below_mono B.out (blw1 _ _)) (blw1 _ _)) (blw1 _ _)) hb
    clear hb S1 S2 S3 S4 B
    have Ka := Ka'
    have Kb := Kb'
    have Fo := Fo'
    have Ko := Ko'
    have S1 := S1'
    have S2 := S2'
    have S3 := S3'
    have S4 := S4'
    have B := B'
    clear Ka' Kb' Fo' Ko' S1' S2' S3' S4' B'
    obtain ⟨qa0, qa1, qa2, qa3⟩ := Ka.out
    obtain ⟨qb0, qb1, qb2, qb3⟩ := Kb.out
    obtain ⟨qo0, qo1, qo2, qo3⟩ := Ko.out
    obtain ⟨fo0, fo1, fo2, fo3⟩ := Fo.out
    have hza : w.heap.size < w1.heap.size := lt_of_cell (a := ⟨w.heap.size, 0, none⟩) Ka.out.1
    have hzb : w.heap.size + 1 < w1.heap.size := lt_of_cell (a := ⟨w.heap.size + 1, 0, none⟩) Kb.out.1
    have hzo : w.heap.size + 1 + 1 < w1.heap.size := lt_of_cell (a := ⟨w.heap.size + 1 + 1, 0, none⟩) Ko.out.1
    go_wp2_with fail
    refine (rboth_any n1 n2 n3 n4 A1 A2 A3 A4 l1 l2 l3 l4 c1 c2 c3 c4 _ S1.out S2.out S3.out S4.out).mono ?_
    rw [e1.out]
    rintro e w2 ⟨rfl, hb⟩
    clear qa0 qa1 qa2 qa3 qb0 qb1 qb2 qb3 qo0 qo1 qo2 qo3 fo0 fo1 fo2 fo3
    have Ka' : Hid (Cf w2 w.heap.size n1 A1 l1.length c1 n2 A2 l2.length c2) := Cf.keep Ka.out hb
    have Kb' : Hid (Cf w2 (w.heap.size + 1) n3 A3 l3.length c3 n4 A4 l4.length c4) := Cf.keep Kb.out hb
    have Fo' : Hid (Ff w2 (w.heap.size + 1 + 1)) := Ff.keep Fo.out Ko.out hb
    have Ko' : Hid (Cf w2 (w.heap.size + 1 + 1) false none 0 0 false none 0 0) := Cf.keep Ko.out hb
    have S1' : Hid (Sl w2 A1 l1 c1) := Sl.below S1.out hb
    have S2' : Hid (Sl w2 A2 l2 c2) := Sl.below S2.out hb
    have S3' : Hid (Sl w2 A3 l3 c3) := Sl.below S3.out hb
    have S4' : Hid (Sl w2 A4 l4 c4) := Sl.below S4.out hb
    have B' : Hid (Below w.heap.size w w2) := below_mono B.out hb
    clear hb Ka Kb Fo Ko S1 S2 S3 S4 B
    have Ka := Ka'
    have Kb := Kb'
    have Fo := Fo'
    have Ko := Ko'
    have S1 := S1'
    have S2 := S2'
    have S3 := S3'
    have S4 := S4'
    have B := B'
    clear Ka' Kb' Fo' Ko' S1' S2' S3' S4' B'
    obtain ⟨qa0, qa1, qa2, qa3⟩ := Ka.out
    obtain ⟨qb0, qb1, qb2, qb3⟩ := Kb.out
    obtain ⟨qo0, qo1, qo2, qo3⟩ := Ko.out
    obtain ⟨fo0, fo1, fo2, fo3⟩ := Fo.out
    replace hza : w.heap.size < w2.heap.size := lt_of_cell (a := ⟨w.heap.size, 0, none⟩) Ka.out.1
    replace hzb : w.heap.size + 1 < w2.heap.size := lt_of_cell (a := ⟨w.heap.size + 1, 0, none⟩) Kb.out.1
    replace hzo : w.heap.size + 1 + 1 < w2.heap.size := lt_of_cell (a := ⟨w.heap.size + 1 + 1, 0, none⟩) Ko.out.1
    go_wp2
    exact bodyPost_ret (v := .tuple #[.agg #[.bool false, .slice none 0 0, .bool false, .slice none 0 0], .int .i64 8]) (by simp [results, Try.results21, go_sem, qo0, qo1, qo2, qo3]) rfl (fres_store4 (r := zF) 8 (Sl.nil _ none 0) (Sl.nil _ none 0) Ko.out B.out (by omega) _ _ _ _)
  | false =>
    obtain ⟨hb1, hb2⟩ := Bool.or_eq_false_iff.1 hb
    have va := vf_of hs1.lim hs2.lim hb1
    have vb := vf_of hs3.lim hs4.lim hb2
    have e1 : Hid (bothK n1 l1 n2 l2 n3 l3 n4 l4 = 0) := by unfold bothK; rw [hb]; rfl
    rw [both_good va vb]
    obtain ⟨h1, h2, hp1, _⟩ := va
    obtain ⟨h3, h4, hp2, _⟩ := vb
    generalize zv n1 l1 = x1 at *
    generalize zv n2 l2 = y1 at *
    generalize zv n3 l3 = x2 at *
    generalize zv n4 l4 = y2 at *
    by_cases hz : x2 = 0
    · have Hz : ((l3.length : Int) == 0) = true := by rw [beq_iff_eq]; have := h3.zero.2 hz; omega
      have hr : divV x1 y1 x2 y2 = (zF, 18) := by unfold divV; rw [if_pos hz]
      rw [hr]
      clear hr hb hb1 hb2 h1 h2 h3 h4 hp1 hp2 hz hs1 hs2 hs3 hs4
      go_enter Try.func21, Try.ntmps21
      go_wp2_with fail
      refine (rboth_any n1 n2 n3 n4 A1 A2 A3 A4 l1 l2 l3 l4 c1 c2 c3 c4 _ (((S1.out.alloc _).alloc _).alloc _) (((S2.out.alloc _).alloc _).alloc _) (((S3.out.alloc _).alloc _).alloc _) (((S4.out.alloc _).alloc _).alloc _)).mono ?_
      rw [e1.out]
      rintro e w1 ⟨rfl, hb⟩
      have Ka' : Hid (Cf w1 w.heap.size n1 A1 l1.length c1 n2 A2 l2.length c2) := Cf.keep (Cf.keep (Cf.keep (Cf.fresh (by simp) _ _ _ _ _ _ _ _ _) (blw1 _ _)) (blw1 _ _)) hb
      have Kb' : Hid (Cf w1 (w.heap.size + 1) n3 A3 l3.length c3 n4 A4 l4.length c4) := Cf.keep (Cf.keep (Cf.fresh (by simp) _ _ _ _ _ _ _ _ _) (blw1 _ _)) hb
      have Fo' : Hid (Ff w1 (w.heap.size + 1 + 1)) := Ff.keep (Ff.fresh (by simp) _ _) (Cf.fresh (by simp) _ _ _ _ _ _ _ _ _) hb
      have Ko' : Hid (Cf w1 (w.heap.size + 1 + 1) false none 0 0 false none 0 0) := Cf.keep (Cf.fresh (by simp) _ _ _ _ _ _ _ _ _) hb
      have S1' : Hid (Sl w1 A1 l1 c1) := Sl.below (((S1.out.alloc _).alloc _).alloc _) hb
      have S2' : Hid (Sl w1 A2 l2 c2) := Sl.below (((S2.out.alloc _).alloc _).alloc _) hb
      have S3' : Hid (Sl w1 A3 l3 c3) := Sl.below (((S3.out.alloc _).alloc _).alloc _) hb
      have S4' : Hid (Sl w1 A4 l4 c4) := Sl.below (((S4.out.alloc _).alloc _).alloc _) hb
      have B' : Hid (Below w.heap.size w w1) := below_mono (below_mono (below_mono (below_mono B.out (blw1 _ _)) (blw1 _ _)) (blw1 _ _)) hb
      clear hb S1 S2 S3 S4 B
      have Ka := Ka'
      have Kb := Kb'
      have Fo := Fo'
      have Ko := Ko'
      have S1 := S1'
      have S2 := S2'
      have S3 := S3'
      have S4 := S4'
      have B := B'
      clear Ka' Kb' Fo' Ko' S1' S2' S3' S4' B'
      obtain ⟨qa0, qa1, qa2, qa3⟩ := Ka.out
      obtain ⟨qb0, qb1, qb2, qb3⟩ := Kb.out
      obtain ⟨qo0, qo1, qo2, qo3⟩ := Ko.out
      obtain ⟨fo0, fo1, fo2, fo3⟩ := Fo.out
      have hza : w.heap.size < w1.heap.size := lt_of_cell (a := ⟨w.heap.size, 0, none⟩) Ka.out.1
      have hzb : w.heap.size + 1 < w1.heap.size := lt_of_cell (a := ⟨w.heap.size + 1, 0, none⟩) Kb.out.1
      have hzo : w.heap.size + 1 + 1 < w1.heap.size := lt_of_cell (a := ⟨w.heap.size + 1 + 1, 0, none⟩) Ko.out.1
      go_wp2
      exact bodyPost_ret (v := .tuple #[.agg #[.bool false, .slice none 0 0, .bool false, .slice none 0 0], .int .i64 18]) (by simp [results, Try.results21, go_sem, qo0, qo1, qo2, qo3]) rfl (fres_store4 (r := zF) 18 (Sl.nil _ none 0) (Sl.nil _ none 0) Ko.out B.out (by omega) _ _ _ _)
    · have Hz : ((l3.length : Int) == 0) = false := by rw [beq_eq_false_iff_ne]; intro e; exact hz (h3.zero.1 (by omega))
      have hdv : divV x1 y1 x2 y2 = outF (fitB (x1 * y2) && fitB (y1 * x2)) (x1 * y2) (y1 * x2) := by unfold divV; rw [if_neg hz]
      rw [hdv]
      obtain ⟨⟨⟨⟨na, la⟩, ⟨nb, lb⟩⟩, k⟩, hr⟩ : ∃ r, r = outF (fitB (x1 * y2) && fitB (y1 * x2)) (x1 * y2) (y1 * x2) := ⟨_, rfl⟩
      have HP : Hid (∀ W, Sl W A1 l1 c1 → Sl W A2 l2 c2 → Sl W A3 l3 c3 → Sl W A4 l4 c4 → Calls Try.prog 52 #[.agg #[.bool n1, .slice A1 l1.length c1], .agg #[.bool n4, .slice A4 l4.length c4], .agg #[.bool n2, .slice A2 l2.length c2], .agg #[.bool n3, .slice A3 l3.length c3]] W (FRes (((na, la), (nb, lb)), k) W)) := fun W a b c d => by rw [hr]; exact rproduct_any n1 n4 n2 n3 A1 A4 A2 A3 l1 l4 l2 l3 c1 c4 c2 c3 x1 y2 y1 x2 h1 h4 h2 h3 (Int.mul_ne_zero (by omega) (by omega)) W a d b c
      rw [← hr]
      clear hr hb hb1 hb2 h1 h2 h3 h4 hp1 hp2 hz hdv hs1 hs2 hs3 hs4
      go_enter Try.func21, Try.ntmps21
      go_wp2_with fail
      refine (rboth_any n1 n2 n3 n4 A1 A2 A3 A4 l1 l2 l3 l4 c1 c2 c3 c4 _ (((S1.out.alloc _).alloc _).alloc _) (((S2.out.alloc _).alloc _).alloc _) (((S3.out.alloc _).alloc _).alloc _) (((S4.out.alloc _).alloc _).alloc _)).mono ?_
      rw [e1.out]
      rintro e w1 ⟨rfl, hb⟩
      have Ka' : Hid (Cf w1 w.heap.size n1 A1 l1.length c1 n2 A2 l2.length c2) := Cf.keep (Cf.keep (Cf.keep (Cf.fresh (by simp) _ _ _ _ _ _ _ _ _) (blw1 _ _)) (blw1 _ _)) hb
      have Kb' : Hid (Cf w1 (w.heap.size + 1) n3 A3 l3.length c3 n4 A4 l4.length c4) := Cf.keep (Cf.keep (Cf.fresh (by simp) _ _ _ _ _ _ _ _ _) (blw1 _ _)) hb
      have Fo' : Hid (Ff w1 (w.heap.size + 1 + 1)) := Ff.keep (Ff.fresh (by simp) _ _) (Cf.fresh (by simp) _ _ _ _ _ _ _ _ _) hb
      have Ko' : Hid (Cf w1 (w.heap.size + 1 + 1) false none 0 0 false none 0 0) := Cf.keep (Cf.fresh (by simp) _ _ _ _ _ _ _ _ _) hb
      have S1' : Hid (Sl w1 A1 l1 c1) := Sl.below (((S1.out.alloc _).alloc _).alloc _) hb
      have S2' : Hid (Sl w1 A2 l2 c2) := Sl.below (((S2.out.alloc _).alloc _).alloc _) hb
      have S3' : Hid (Sl w1 A3 l3 c3) := Sl.below (((S3.out.alloc _).alloc _).alloc _) hb
      have S4' : Hid (Sl w1 A4 l4 c4) := Sl.below (((S4.out.alloc _).alloc _).alloc _) hb
      have B' : Hid (Below w.heap.size w w1) := below_mono (below_mono (below_mono (below_mono B.out (blw1 _ _)) (blw1 _ _)) (blw1 _ _)) hb
      clear hb S1 S2 S3 S4 B
      have Ka := Ka'
      have Kb := Kb'
      have Fo := Fo'
      have Ko := Ko'
      have S1 := S1'
      have S2 := S2'
      have S3 := S3'
      have S4 := S4'
      have B := B'
      clear Ka' Kb' Fo' Ko' S1' S2' S3' S4' B'
      obtain ⟨qa0, qa1, qa2, qa3⟩ := Ka.out
      obtain ⟨qb0, qb1, qb2, qb3⟩ := Kb.out
      obtain ⟨qo0, qo1, qo2, qo3⟩ := Ko.out
      obtain ⟨fo0, fo1, fo2, fo3⟩ := Fo.out
      have hza : w.heap.size < w1.heap.size := lt_of_cell (a := ⟨w.heap.size, 0, none⟩) Ka.out.1
      have hzb : w.heap.size + 1 < w1.heap.size := lt_of_cell (a := ⟨w.heap.size + 1, 0, none⟩) Kb.out.1
      have hzo : w.heap.size + 1 + 1 < w1.heap.size := lt_of_cell (a := ⟨w.heap.size + 1 + 1, 0, none⟩) Ko.out.1
      go_wp2_with fail
      refine (HP.out _ S1.out S2.out S3.out S4.out).mono ?_
      rintro e w2 ⟨A9, c9, B9, d9, rfl, hsx, hsy, hb⟩
      clear qa0 qa1 qa2 qa3 qb0 qb1 qb2 qb3 qo0 qo1 qo2 qo3 fo0 fo1 fo2 fo3
      have Ka' : Hid (Cf w2 w.heap.size n1 A1 l1.length c1 n2 A2 l2.length c2) := Cf.keep Ka.out hb
      have Kb' : Hid (Cf w2 (w.heap.size + 1) n3 A3 l3.length c3 n4 A4 l4.length c4) := Cf.keep Kb.out hb
      have Fo' : Hid (Ff w2 (w.heap.size + 1 + 1)) := Ff.keep Fo.out Ko.out hb
      have Ko' : Hid (Cf w2 (w.heap.size + 1 + 1) false none 0 0 false none 0 0) := Cf.keep Ko.out hb
      have S1' : Hid (Sl w2 A1 l1 c1) := Sl.below S1.out hb
      have S2' : Hid (Sl w2 A2 l2 c2) := Sl.below S2.out hb
      have S3' : Hid (Sl w2 A3 l3 c3) := Sl.below S3.out hb
      have S4' : Hid (Sl w2 A4 l4 c4) := Sl.below S4.out hb
      have B' : Hid (Below w.heap.size w w2) := below_mono B.out hb
      clear hb Ka Kb Fo Ko S1 S2 S3 S4 B
      have Ka := Ka'
      have Kb := Kb'
      have Fo := Fo'
      have Ko := Ko'
      have S1 := S1'
      have S2 := S2'
      have S3 := S3'
      have S4 := S4'
      have B := B'
      clear Ka' Kb' Fo' Ko' S1' S2' S3' S4' B'
      (try dsimp only at hsx hsy)
      (try dsimp only)
      have Sx : Hid (Sl w2 A9 la c9) := hsx
      clear hsx
      have Sy : Hid (Sl w2 B9 lb d9) := hsy
      clear hsy
      obtain ⟨qo0, qo1, qo2, qo3⟩ := Ko.out
      obtain ⟨fo0, fo1, fo2, fo3⟩ := Fo.out
      replace hza : w.heap.size < w2.heap.size := lt_of_cell (a := ⟨w.heap.size, 0, none⟩) Ka.out.1
      replace hzb : w.heap.size + 1 < w2.heap.size := lt_of_cell (a := ⟨w.heap.size + 1, 0, none⟩) Kb.out.1
      replace hzo : w.heap.size + 1 + 1 < w2.heap.size := lt_of_cell (a := ⟨w.heap.size + 1 + 1, 0, none⟩) Ko.out.1
      go_wp2_with fail
      exact bodyPost_ret (v := .tuple #[.agg #[.bool na, .slice A9 la.length c9, .bool nb, .slice B9 lb.length d9], .int .i64 k]) (by simp [results, Try.results21, go_sem, qo0, qo1, qo2, qo3]) rfl (fres_store4 (r := ((na, la), (nb, lb))) k Sx.out Sy.out Ko.out B.out (by omega) _ _ _ _)

end Go.Proofs.Ythlfidbhldbedaa

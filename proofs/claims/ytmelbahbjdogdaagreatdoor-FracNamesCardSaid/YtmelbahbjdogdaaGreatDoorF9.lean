/- Walks: frac.Add, Sub, Mul, Div. -/
import Derived.Test.YtmelbahbjdogdaaGreatDoorF3
import Derived.Test.YtmelbahbjdogdaaGreatDoorF6
namespace Go.Proofs.YtmelbahbjdogdaaGreatDoor
open Go.RowKit
attribute [local go_sem ↓] Go.wp_at_zero Go.wp_at_succ
set_option maxRecDepth 100000 in
set_option maxHeartbeats 2000000 in
theorem div1_zero (n1 n2 n3 n4 : Bool) (A1 A2 A3 A4 : Option Addr) (l1 l2 l3 l4 : List Nat) (c1 c2 c3 c4 : Nat) (x2 : Int) (h3 : VZ n3 l3 x2) (hz : x2 = 0) (w : World) (hs1 : Sl w A1 l1 c1) (hs2 : Sl w A2 l2 c2) (hs3 : Sl w A3 l3 c3) (hs4 : Sl w A4 l4 c4) :
    Calls Tryz.prog 93 #[.agg #[.bool n1, .slice A1 l1.length c1, .bool n2, .slice A2 l2.length c2], .agg #[.bool n3, .slice A3 l3.length c3, .bool n4, .slice A4 l4.length c4]] w (Falls 18 w) := by
  have Hz : Hid (((l3.length : Int) == 0) = true) := by rw [Hid, beq_iff_eq]; have := h3.zero.2 hz; omega
  have S1 := Lib.hid hs1
  have S2 := Lib.hid hs2
  have S3 := Lib.hid hs3
  have S4 := Lib.hid hs4
  have B : Hid (Below w.heap.size w w) := Below.refl _ _
  clear hs1 hs2 hs3 hs4 h3 hz
  go_enter Tryz.func93, Tryz.ntmps93
  go_wp2_with fail
  refine (zero_any n3 A3 l3 c3 _).mono ?_
  rw [Hz.out]
  rintro e w1 ⟨rfl, hb⟩
  replace S1 : Hid (Sl w1 A1 l1 c1) := Sl.below ((((S1.out.alloc _).alloc _).alloc _).alloc _) hb
  replace S2 : Hid (Sl w1 A2 l2 c2) := Sl.below ((((S2.out.alloc _).alloc _).alloc _).alloc _) hb
  replace S3 : Hid (Sl w1 A3 l3 c3) := Sl.below ((((S3.out.alloc _).alloc _).alloc _).alloc _) hb
  replace S4 : Hid (Sl w1 A4 l4 c4) := Sl.below ((((S4.out.alloc _).alloc _).alloc _).alloc _) hb
  have Fr : Hid (Fw w1 (w.heap.size + 1 + 1)) := Fw.keep (Fw.keep (Fw.fresh (by simp) _ _) (Cw.fresh (by simp) _ _ _ _ _) (blw1 _ _)) (Cw.keep (Cw.fresh (by simp) _ _ _ _ _) (blw1 _ _)) hb
  have Fu : Hid (Fw w1 (w.heap.size + 1 + 1 + 1)) := Fw.keep (Fw.fresh (by simp) _ _) (Cw.fresh (by simp) _ _ _ _ _) hb
  have Ka : Hid (Cf w1 w.heap.size n1 A1 l1.length c1 n2 A2 l2.length c2) := Cf.keep (Cf.keep (Cf.keep (Cf.keep (Cf.fresh (by simp) _ _ _ _ _ _ _ _ _) (blw1 _ _)) (blw1 _ _)) (blw1 _ _)) hb
  have Kb : Hid (Cf w1 (w.heap.size + 1) n3 A3 l3.length c3 n4 A4 l4.length c4) := Cf.keep (Cf.keep (Cf.keep (Cf.fresh (by simp) _ _ _ _ _ _ _ _ _) (blw1 _ _)) (blw1 _ _)) hb
  have Kr : Hid (Cw w1 (w.heap.size + 1 + 1) false none 0 0) := Cw.keep (Cw.keep (Cw.fresh (by simp) _ _ _ _ _) (blw1 _ _)) hb
  have Ku : Hid (Cw w1 (w.heap.size + 1 + 1 + 1) false none 0 0) := Cw.keep (Cw.fresh (by simp) _ _ _ _ _) hb
  replace B : Hid (Below w.heap.size w w1) := below_mono (below_mono (below_mono (below_mono (below_mono B.out (blw1 _ _)) (blw1 _ _)) (blw1 _ _)) (blw1 _ _)) hb
  clear hb
  obtain ⟨qa0, qa1, qa2, qa3⟩ := Ka.out
  obtain ⟨qb0, qb1, qb2, qb3⟩ := Kb.out
  have hza : w.heap.size < w1.heap.size := lt_of_cell (a := ⟨w.heap.size, 0, none⟩) Ka.out.1
  have hzb : w.heap.size + 1 < w1.heap.size := lt_of_cell (a := ⟨w.heap.size + 1, 0, none⟩) Kb.out.1
  have hzr : w.heap.size + 1 + 1 < w1.heap.size := lt_of_cell (a := ⟨w.heap.size + 1 + 1, 0, none⟩) Kr.out.1
  have hzu : w.heap.size + 1 + 1 + 1 < w1.heap.size := lt_of_cell (a := ⟨w.heap.size + 1 + 1 + 1, 0, none⟩) Ku.out.1
  go_wp2_with fail
  refine (want_bad 18 (by decide) _).mono ?_
  rintro e w2 ⟨rfl, hb⟩
  clear qa0 qa1 qa2 qa3 qb0 qb1 qb2 qb3
  replace S1 : Hid (Sl w2 A1 l1 c1) := Sl.below S1.out hb
  replace S2 : Hid (Sl w2 A2 l2 c2) := Sl.below S2.out hb
  replace S3 : Hid (Sl w2 A3 l3 c3) := Sl.below S3.out hb
  replace S4 : Hid (Sl w2 A4 l4 c4) := Sl.below S4.out hb
  replace Fr : Hid (Fw w2 (w.heap.size + 1 + 1)) := Fw.keep Fr.out Kr.out hb
  replace Fu : Hid (Fw w2 (w.heap.size + 1 + 1 + 1)) := Fw.keep Fu.out Ku.out hb
  replace Ka : Hid (Cf w2 w.heap.size n1 A1 l1.length c1 n2 A2 l2.length c2) := Cf.keep Ka.out hb
  replace Kb : Hid (Cf w2 (w.heap.size + 1) n3 A3 l3.length c3 n4 A4 l4.length c4) := Cf.keep Kb.out hb
  replace Kr : Hid (Cw w2 (w.heap.size + 1 + 1) false none 0 0) := Cw.keep Kr.out hb
  replace Ku : Hid (Cw w2 (w.heap.size + 1 + 1 + 1) false none 0 0) := Cw.keep Ku.out hb
  replace B : Hid (Below w.heap.size w w2) := below_mono B.out hb
  clear hb
  go_wp2_with fail
  exact ⟨rfl, rfl, B.out⟩

set_option maxRecDepth 100000 in
set_option maxHeartbeats 2000000 in
theorem add_both (n1 n2 n3 n4 : Bool) (A1 A2 A3 A4 : Option Addr) (l1 l2 l3 l4 : List Nat) (c1 c2 c3 c4 : Nat) (w : World) (hs1 : Sl w A1 l1 c1) (hs2 : Sl w A2 l2 c2) (hs3 : Sl w A3 l3 c3) (hs4 : Sl w A4 l4 c4) :
    Calls Tryz.prog 88 #[.agg #[.bool n1, .slice A1 l1.length c1, .bool n2, .slice A2 l2.length c2], .agg #[.bool n3, .slice A3 l3.length c3, .bool n4, .slice A4 l4.length c4], .func (.func 94) #[] #[]] w (FRes (bothF n1 l1 n2 l2 n3 l3 n4 l4 addV) w) := by
  have hF : ∀ (args : Array Value) (W : World), (callFunc 94 args).run Tryz.prog W = .ok (.enter 94 args) W := fun _ _ => rfl
  cases hb1 : badF n1 l1 n2 l2 with
  | true =>
    have hr : bothF n1 l1 n2 l2 n3 l3 n4 l4 addV = (zF, 8) := by unfold bothF; rw [hb1]; rfl
    rw [hr]
    exact both_bad1 n1 n2 n3 n4 A1 A2 A3 A4 l1 l2 l3 l4 c1 c2 c3 c4 94 (by unfold chkF; rw [hb1]; rfl) w hs1 hs2 hs3 hs4
  | false =>
    have k1 : chkF n1 l1 n2 l2 = 0 := by unfold chkF; rw [hb1]; rfl
    cases hb2 : badF n3 l3 n4 l4 with
    | true =>
      have hr : bothF n1 l1 n2 l2 n3 l3 n4 l4 addV = (zF, 8) := by unfold bothF; rw [hb1, hb2]; rfl
      rw [hr]
      exact both_bad2 n1 n2 n3 n4 A1 A2 A3 A4 l1 l2 l3 l4 c1 c2 c3 c4 94 k1 (by unfold chkF; rw [hb2]; rfl) w hs1 hs2 hs3 hs4
    | false =>
      have k2 : chkF n3 l3 n4 l4 = 0 := by unfold chkF; rw [hb2]; rfl
      have va := vf_of hs1.lim hs2.lim hb1
      have vb := vf_of hs3.lim hs4.lim hb2
      rw [both_good va vb]
      obtain ⟨h1, h2, hp1, _⟩ := va
      obtain ⟨h3, h4, hp2, _⟩ := vb
      generalize zv n1 l1 = x1 at *
      generalize zv n2 l2 = y1 at *
      generalize zv n3 l3 = x2 at *
      generalize zv n4 l4 = y2 at *
      unfold addV
      unfold outF
      cases f0 : fitB (x1 * y2) with
      | false =>
        rw [if_neg (by simp)]
        exact both_fall n1 n2 n3 n4 A1 A2 A3 A4 l1 l2 l3 l4 c1 c2 c3 c4 94 hF k1 k2 16 (fun W a b c d => add1_bad0 n1 n2 n3 n4 A1 A2 A3 A4 l1 l2 l3 l4 c1 c2 c3 c4 x1 y2 h1 h4  (fun e => by rw [fitB_iff.2 e] at f0; cases f0) W a b c d) w hs1 hs2 hs3 hs4
      | true =>
        cases f1 : fitB (x2 * y1) with
        | false =>
          rw [if_neg (by simp)]
          exact both_fall n1 n2 n3 n4 A1 A2 A3 A4 l1 l2 l3 l4 c1 c2 c3 c4 94 hF k1 k2 16 (fun W a b c d => add1_bad1 n1 n2 n3 n4 A1 A2 A3 A4 l1 l2 l3 l4 c1 c2 c3 c4 x1 y1 x2 y2 h1 h2 h3 h4 (fitB_iff.1 f0) (fun e => by rw [fitB_iff.2 e] at f1; cases f1) W a b c d) w hs1 hs2 hs3 hs4
        | true =>
          cases f2 : fitB (x1 * y2 + x2 * y1) with
          | false =>
            rw [if_neg (by simp)]
            exact both_fall n1 n2 n3 n4 A1 A2 A3 A4 l1 l2 l3 l4 c1 c2 c3 c4 94 hF k1 k2 16 (fun W a b c d => add1_bad2 n1 n2 n3 n4 A1 A2 A3 A4 l1 l2 l3 l4 c1 c2 c3 c4 x1 y1 x2 y2 h1 h2 h3 h4 (fitB_iff.1 f0) (fitB_iff.1 f1) (fun e => by rw [fitB_iff.2 e] at f2; cases f2) W a b c d) w hs1 hs2 hs3 hs4
          | true =>
            cases f3 : fitB (y1 * y2) with
            | false =>
              rw [if_neg (by simp)]
              exact both_fall n1 n2 n3 n4 A1 A2 A3 A4 l1 l2 l3 l4 c1 c2 c3 c4 94 hF k1 k2 16 (fun W a b c d => add1_bad4 n1 n2 n3 n4 A1 A2 A3 A4 l1 l2 l3 l4 c1 c2 c3 c4 x1 y1 x2 y2 h1 h2 h3 h4 (fitB_iff.1 f0) (fitB_iff.1 f1) (fitB_iff.1 f2) (fun e => by rw [fitB_iff.2 e] at f3; cases f3) W a b c d) w hs1 hs2 hs3 hs4
            | true =>
              rw [if_pos (by simp)]
              exact both_ok n1 n2 n3 n4 A1 A2 A3 A4 l1 l2 l3 l4 c1 c2 c3 c4 94 hF k1 k2 _ _ _ _ _ _ (vz_wOf (fitB_iff.1 f2)) (vz_wOf (fitB_iff.1 f3)) (Int.mul_ne_zero (by omega) (by omega)) (fun W a b c d => add1_ok n1 n2 n3 n4 A1 A2 A3 A4 l1 l2 l3 l4 c1 c2 c3 c4 x1 y1 x2 y2 h1 h2 h3 h4 (fitB_iff.1 f0) (fitB_iff.1 f1) (fitB_iff.1 f2) (fitB_iff.1 f3) W a b c d) w hs1 hs2 hs3 hs4

set_option maxRecDepth 100000 in
set_option maxHeartbeats 2000000 in
theorem add_bothG (n1 n2 n3 n4 : Bool) (A1 A2 A3 A4 : Option Addr) (l1 l2 l3 l4 : List Nat) (c1 c2 c3 c4 : Nat) (hg : (bothF n1 l1 n2 l2 n3 l3 n4 l4 addV).2 = 0) (w : World) (hs1 : Sl w A1 l1 c1) (hs2 : Sl w A2 l2 c2) (hs3 : Sl w A3 l3 c3) (hs4 : Sl w A4 l4 c4) :
    Calls Tryz.prog 88 #[.agg #[.bool n1, .slice A1 l1.length c1, .bool n2, .slice A2 l2.length c2], .agg #[.bool n3, .slice A3 l3.length c3, .bool n4, .slice A4 l4.length c4], .func (.func 94) #[] #[]] w (FRes (bothF n1 l1 n2 l2 n3 l3 n4 l4 addV) w) := by
  have hF : ∀ (args : Array Value) (W : World), (callFunc 94 args).run Tryz.prog W = .ok (.enter 94 args) W := fun _ _ => rfl
  cases hb1 : badF n1 l1 n2 l2 with
  | true =>
    have hr : bothF n1 l1 n2 l2 n3 l3 n4 l4 addV = (zF, 8) := by unfold bothF; rw [hb1]; rfl
    rw [hr]
    rw [hr] at hg; exact absurd hg (by decide)
  | false =>
    have k1 : chkF n1 l1 n2 l2 = 0 := by unfold chkF; rw [hb1]; rfl
    cases hb2 : badF n3 l3 n4 l4 with
    | true =>
      have hr : bothF n1 l1 n2 l2 n3 l3 n4 l4 addV = (zF, 8) := by unfold bothF; rw [hb1, hb2]; rfl
      rw [hr]
      rw [hr] at hg; exact absurd hg (by decide)
    | false =>
      have k2 : chkF n3 l3 n4 l4 = 0 := by unfold chkF; rw [hb2]; rfl
      have va := vf_of hs1.lim hs2.lim hb1
      have vb := vf_of hs3.lim hs4.lim hb2
      rw [both_good va vb] at hg ⊢
      obtain ⟨h1, h2, hp1, _⟩ := va
      obtain ⟨h3, h4, hp2, _⟩ := vb
      generalize zv n1 l1 = x1 at *
      generalize zv n2 l2 = y1 at *
      generalize zv n3 l3 = x2 at *
      generalize zv n4 l4 = y2 at *
      unfold addV at hg ⊢
      unfold outF at hg ⊢
      cases f0 : fitB (x1 * y2) with
      | false =>
        rw [if_neg (by simp)]
        rw [f0, if_neg (by simp)] at hg; exact absurd hg (by decide)
      | true =>
        cases f1 : fitB (x2 * y1) with
        | false =>
          rw [if_neg (by simp)]
          rw [f1, if_neg (by simp)] at hg; exact absurd hg (by decide)
        | true =>
          cases f2 : fitB (x1 * y2 + x2 * y1) with
          | false =>
            rw [if_neg (by simp)]
            rw [f2, if_neg (by simp)] at hg; exact absurd hg (by decide)
          | true =>
            cases f3 : fitB (y1 * y2) with
            | false =>
              rw [if_neg (by simp)]
              rw [f3, if_neg (by simp)] at hg; exact absurd hg (by decide)
            | true =>
              rw [if_pos (by simp)]
              exact both_ok n1 n2 n3 n4 A1 A2 A3 A4 l1 l2 l3 l4 c1 c2 c3 c4 94 hF k1 k2 _ _ _ _ _ _ (vz_wOf (fitB_iff.1 f2)) (vz_wOf (fitB_iff.1 f3)) (Int.mul_ne_zero (by omega) (by omega)) (fun W a b c d => add1_ok n1 n2 n3 n4 A1 A2 A3 A4 l1 l2 l3 l4 c1 c2 c3 c4 x1 y1 x2 y2 h1 h2 h3 h4 (fitB_iff.1 f0) (fitB_iff.1 f1) (fitB_iff.1 f2) (fitB_iff.1 f3) W a b c d) w hs1 hs2 hs3 hs4

set_option maxRecDepth 100000 in
set_option maxHeartbeats 2000000 in
theorem fadd_of (n1 n2 n3 n4 : Bool) (A1 A2 A3 A4 : Option Addr) (l1 l2 l3 l4 : List Nat) (c1 c2 c3 c4 : Nat) (hB : ∀ W, Sl W A1 l1 c1 → Sl W A2 l2 c2 → Sl W A3 l3 c3 → Sl W A4 l4 c4 → Calls Tryz.prog 88 #[.agg #[.bool n1, .slice A1 l1.length c1, .bool n2, .slice A2 l2.length c2], .agg #[.bool n3, .slice A3 l3.length c3, .bool n4, .slice A4 l4.length c4], .func (.func 94) #[] #[]] W (FRes (bothF n1 l1 n2 l2 n3 l3 n4 l4 addV) W)) (w : World) (hs1 : Sl w A1 l1 c1) (hs2 : Sl w A2 l2 c2) (hs3 : Sl w A3 l3 c3) (hs4 : Sl w A4 l4 c4) :
    Calls Tryz.prog 42 #[.agg #[.bool n1, .slice A1 l1.length c1, .bool n2, .slice A2 l2.length c2], .agg #[.bool n3, .slice A3 l3.length c3, .bool n4, .slice A4 l4.length c4]] w (FRes (bothF n1 l1 n2 l2 n3 l3 n4 l4 addV) w) := by
  have S1 := Lib.hid hs1
  have S2 := Lib.hid hs2
  have S3 := Lib.hid hs3
  have S4 := Lib.hid hs4
  have B : Hid (Below w.heap.size w w) := Below.refl _ _
  obtain ⟨⟨⟨⟨np, lp⟩, ⟨nq, lq⟩⟩, k⟩, hr⟩ : ∃ r, r = bothF n1 l1 n2 l2 n3 l3 n4 l4 addV := ⟨_, rfl⟩
  have HB : Hid (∀ W, Sl W A1 l1 c1 → Sl W A2 l2 c2 → Sl W A3 l3 c3 → Sl W A4 l4 c4 → Calls Tryz.prog 88 #[.agg #[.bool n1, .slice A1 l1.length c1, .bool n2, .slice A2 l2.length c2], .agg #[.bool n3, .slice A3 l3.length c3, .bool n4, .slice A4 l4.length c4], .func (.func 94) #[] #[]] W (FRes (((np, lp), (nq, lq)), k) W)) := fun W a b c d => by rw [hr]; exact hB W a b c d
  rw [← hr]
  clear hr hB hs1 hs2 hs3 hs4
  go_enter Tryz.func42, Tryz.ntmps42
  go_wp2_with fail
  refine (HB.out _ (((S1.out.alloc _).alloc _).alloc _) (((S2.out.alloc _).alloc _).alloc _) (((S3.out.alloc _).alloc _).alloc _) (((S4.out.alloc _).alloc _).alloc _)).mono ?_
  rintro e w1 ⟨A5, c5, A6, c6, rfl, hsp, hsq, hb⟩
  replace S1 : Hid (Sl w1 A1 l1 c1) := Sl.below (((S1.out.alloc _).alloc _).alloc _) hb
  replace S2 : Hid (Sl w1 A2 l2 c2) := Sl.below (((S2.out.alloc _).alloc _).alloc _) hb
  replace S3 : Hid (Sl w1 A3 l3 c3) := Sl.below (((S3.out.alloc _).alloc _).alloc _) hb
  replace S4 : Hid (Sl w1 A4 l4 c4) := Sl.below (((S4.out.alloc _).alloc _).alloc _) hb
  have Fo : Hid (Ff w1 (w.heap.size + 1 + 1)) := Ff.keep (Ff.fresh (by simp) _ _) (Cf.fresh (by simp) _ _ _ _ _ _ _ _ _) hb
  have Ka : Hid (Cf w1 w.heap.size n1 A1 l1.length c1 n2 A2 l2.length c2) := Cf.keep (Cf.keep (Cf.keep (Cf.fresh (by simp) _ _ _ _ _ _ _ _ _) (blw1 _ _)) (blw1 _ _)) hb
  have Kb : Hid (Cf w1 (w.heap.size + 1) n3 A3 l3.length c3 n4 A4 l4.length c4) := Cf.keep (Cf.keep (Cf.fresh (by simp) _ _ _ _ _ _ _ _ _) (blw1 _ _)) hb
  have Ko : Hid (Cf w1 (w.heap.size + 1 + 1) false none 0 0 false none 0 0) := Cf.keep (Cf.fresh (by simp) _ _ _ _ _ _ _ _ _) hb
  replace B : Hid (Below w.heap.size w w1) := below_mono (below_mono (below_mono (below_mono B.out (blw1 _ _)) (blw1 _ _)) (blw1 _ _)) hb
  clear hb
  (try dsimp only at hsp hsq)
  (try dsimp only)
  have Sp : Hid (Sl w1 A5 lp c5) := hsp
  clear hsp
  have Sq : Hid (Sl w1 A6 lq c6) := hsq
  clear hsq
  obtain ⟨qo0, qo1, qo2, qo3⟩ := Ko.out
  obtain ⟨fo0, fo1, fo2, fo3⟩ := Fo.out
  have hza : w.heap.size < w1.heap.size := lt_of_cell (a := ⟨w.heap.size, 0, none⟩) Ka.out.1
  have hzb : w.heap.size + 1 < w1.heap.size := lt_of_cell (a := ⟨w.heap.size + 1, 0, none⟩) Kb.out.1
  have hzo : w.heap.size + 1 + 1 < w1.heap.size := lt_of_cell (a := ⟨w.heap.size + 1 + 1, 0, none⟩) Ko.out.1
  go_wp2_with fail
  exact bodyPost_ret (v := .tuple #[.agg #[.bool np, .slice A5 lp.length c5, .bool nq, .slice A6 lq.length c6], .int .i64 k]) (by simp [results, Tryz.results42, go_sem, qo0, qo1, qo2, qo3]) rfl (fres_store4 (r := ((np, lp), (nq, lq))) k Sp.out Sq.out Ko.out B.out (by omega) _ _ _ _)

theorem fadd_any (n1 n2 n3 n4 : Bool) (A1 A2 A3 A4 : Option Addr) (l1 l2 l3 l4 : List Nat) (c1 c2 c3 c4 : Nat) (w : World) (hs1 : Sl w A1 l1 c1) (hs2 : Sl w A2 l2 c2) (hs3 : Sl w A3 l3 c3) (hs4 : Sl w A4 l4 c4) :
    Calls Tryz.prog 42 #[.agg #[.bool n1, .slice A1 l1.length c1, .bool n2, .slice A2 l2.length c2], .agg #[.bool n3, .slice A3 l3.length c3, .bool n4, .slice A4 l4.length c4]] w (FRes (bothF n1 l1 n2 l2 n3 l3 n4 l4 addV) w) :=
  fadd_of n1 n2 n3 n4 A1 A2 A3 A4 l1 l2 l3 l4 c1 c2 c3 c4 (fun W a b c d => add_both n1 n2 n3 n4 A1 A2 A3 A4 l1 l2 l3 l4 c1 c2 c3 c4 W a b c d) w hs1 hs2 hs3 hs4

theorem fadd_good (n1 n2 n3 n4 : Bool) (A1 A2 A3 A4 : Option Addr) (l1 l2 l3 l4 : List Nat) (c1 c2 c3 c4 : Nat) (hg : (bothF n1 l1 n2 l2 n3 l3 n4 l4 addV).2 = 0) (w : World) (hs1 : Sl w A1 l1 c1) (hs2 : Sl w A2 l2 c2) (hs3 : Sl w A3 l3 c3) (hs4 : Sl w A4 l4 c4) :
    Calls Tryz.prog 42 #[.agg #[.bool n1, .slice A1 l1.length c1, .bool n2, .slice A2 l2.length c2], .agg #[.bool n3, .slice A3 l3.length c3, .bool n4, .slice A4 l4.length c4]] w (FRes (bothF n1 l1 n2 l2 n3 l3 n4 l4 addV) w) :=
  fadd_of n1 n2 n3 n4 A1 A2 A3 A4 l1 l2 l3 l4 c1 c2 c3 c4 (fun W a b c d => add_bothG n1 n2 n3 n4 A1 A2 A3 A4 l1 l2 l3 l4 c1 c2 c3 c4 hg W a b c d) w hs1 hs2 hs3 hs4

set_option maxRecDepth 100000 in
set_option maxHeartbeats 2000000 in
theorem div_bothG (n1 n2 n3 n4 : Bool) (A1 A2 A3 A4 : Option Addr) (l1 l2 l3 l4 : List Nat) (c1 c2 c3 c4 : Nat) (hg : (bothF n1 l1 n2 l2 n3 l3 n4 l4 divV).2 = 0 ∨ (bothF n1 l1 n2 l2 n3 l3 n4 l4 divV).2 = 18) (w : World) (hs1 : Sl w A1 l1 c1) (hs2 : Sl w A2 l2 c2) (hs3 : Sl w A3 l3 c3) (hs4 : Sl w A4 l4 c4) :
    Calls Tryz.prog 88 #[.agg #[.bool n1, .slice A1 l1.length c1, .bool n2, .slice A2 l2.length c2], .agg #[.bool n3, .slice A3 l3.length c3, .bool n4, .slice A4 l4.length c4], .func (.func 93) #[] #[]] w (FRes (bothF n1 l1 n2 l2 n3 l3 n4 l4 divV) w) := by
  have hF : ∀ (args : Array Value) (W : World), (callFunc 93 args).run Tryz.prog W = .ok (.enter 93 args) W := fun _ _ => rfl
  cases hb1 : badF n1 l1 n2 l2 with
  | true =>
    have hr : bothF n1 l1 n2 l2 n3 l3 n4 l4 divV = (zF, 8) := by unfold bothF; rw [hb1]; rfl
    rw [hr]
    rw [hr] at hg; exact absurd hg (by decide)
  | false =>
    have k1 : chkF n1 l1 n2 l2 = 0 := by unfold chkF; rw [hb1]; rfl
    cases hb2 : badF n3 l3 n4 l4 with
    | true =>
      have hr : bothF n1 l1 n2 l2 n3 l3 n4 l4 divV = (zF, 8) := by unfold bothF; rw [hb1, hb2]; rfl
      rw [hr]
      rw [hr] at hg; exact absurd hg (by decide)
    | false =>
      have k2 : chkF n3 l3 n4 l4 = 0 := by unfold chkF; rw [hb2]; rfl
      have va := vf_of hs1.lim hs2.lim hb1
      have vb := vf_of hs3.lim hs4.lim hb2
      rw [both_good va vb] at hg ⊢
      obtain ⟨h1, h2, hp1, _⟩ := va
      obtain ⟨h3, h4, hp2, _⟩ := vb
      generalize zv n1 l1 = x1 at *
      generalize zv n2 l2 = y1 at *
      generalize zv n3 l3 = x2 at *
      generalize zv n4 l4 = y2 at *
      unfold divV at hg ⊢
      by_cases hz : x2 = 0
      · rw [if_pos hz]
        exact both_fall n1 n2 n3 n4 A1 A2 A3 A4 l1 l2 l3 l4 c1 c2 c3 c4 93 hF k1 k2 18 (fun W a b c d => div1_zero n1 n2 n3 n4 A1 A2 A3 A4 l1 l2 l3 l4 c1 c2 c3 c4 x2 h3 hz W a b c d) w hs1 hs2 hs3 hs4
      · rw [if_neg hz] at hg ⊢
        unfold outF at hg ⊢
        cases f0 : fitB (x1 * y2) with
        | false =>
          rw [if_neg (by simp)]
          rw [f0, if_neg (by simp)] at hg; exact absurd hg (by decide)
        | true =>
          cases f1 : fitB (y1 * x2) with
          | false =>
            rw [if_neg (by simp)]
            rw [f1, if_neg (by simp)] at hg; exact absurd hg (by decide)
          | true =>
            rw [if_pos (by simp)]
            exact both_ok n1 n2 n3 n4 A1 A2 A3 A4 l1 l2 l3 l4 c1 c2 c3 c4 93 hF k1 k2 _ _ _ _ _ _ (vz_wOf (fitB_iff.1 f0)) (vz_wOf (fitB_iff.1 f1)) (Int.mul_ne_zero (by omega) (by omega)) (fun W a b c d => div1_ok n1 n2 n3 n4 A1 A2 A3 A4 l1 l2 l3 l4 c1 c2 c3 c4 x1 y1 x2 y2 h1 h2 h3 h4 hz (fitB_iff.1 f0) (fitB_iff.1 f1) W a b c d) w hs1 hs2 hs3 hs4

set_option maxRecDepth 100000 in
set_option maxHeartbeats 2000000 in
theorem fdiv_of (n1 n2 n3 n4 : Bool) (A1 A2 A3 A4 : Option Addr) (l1 l2 l3 l4 : List Nat) (c1 c2 c3 c4 : Nat) (hB : ∀ W, Sl W A1 l1 c1 → Sl W A2 l2 c2 → Sl W A3 l3 c3 → Sl W A4 l4 c4 → Calls Tryz.prog 88 #[.agg #[.bool n1, .slice A1 l1.length c1, .bool n2, .slice A2 l2.length c2], .agg #[.bool n3, .slice A3 l3.length c3, .bool n4, .slice A4 l4.length c4], .func (.func 93) #[] #[]] W (FRes (bothF n1 l1 n2 l2 n3 l3 n4 l4 divV) W)) (w : World) (hs1 : Sl w A1 l1 c1) (hs2 : Sl w A2 l2 c2) (hs3 : Sl w A3 l3 c3) (hs4 : Sl w A4 l4 c4) :
    Calls Tryz.prog 40 #[.agg #[.bool n1, .slice A1 l1.length c1, .bool n2, .slice A2 l2.length c2], .agg #[.bool n3, .slice A3 l3.length c3, .bool n4, .slice A4 l4.length c4]] w (FRes (bothF n1 l1 n2 l2 n3 l3 n4 l4 divV) w) := by
  have S1 := Lib.hid hs1
  have S2 := Lib.hid hs2
  have S3 := Lib.hid hs3
  have S4 := Lib.hid hs4
  have B : Hid (Below w.heap.size w w) := Below.refl _ _
  obtain ⟨⟨⟨⟨np, lp⟩, ⟨nq, lq⟩⟩, k⟩, hr⟩ : ∃ r, r = bothF n1 l1 n2 l2 n3 l3 n4 l4 divV := ⟨_, rfl⟩
  have HB : Hid (∀ W, Sl W A1 l1 c1 → Sl W A2 l2 c2 → Sl W A3 l3 c3 → Sl W A4 l4 c4 → Calls Tryz.prog 88 #[.agg #[.bool n1, .slice A1 l1.length c1, .bool n2, .slice A2 l2.length c2], .agg #[.bool n3, .slice A3 l3.length c3, .bool n4, .slice A4 l4.length c4], .func (.func 93) #[] #[]] W (FRes (((np, lp), (nq, lq)), k) W)) := fun W a b c d => by rw [hr]; exact hB W a b c d
  rw [← hr]
  clear hr hB hs1 hs2 hs3 hs4
  go_enter Tryz.func40, Tryz.ntmps40
  go_wp2_with fail
  refine (HB.out _ (((S1.out.alloc _).alloc _).alloc _) (((S2.out.alloc _).alloc _).alloc _) (((S3.out.alloc _).alloc _).alloc _) (((S4.out.alloc _).alloc _).alloc _)).mono ?_
  rintro e w1 ⟨A5, c5, A6, c6, rfl, hsp, hsq, hb⟩
  replace S1 : Hid (Sl w1 A1 l1 c1) := Sl.below (((S1.out.alloc _).alloc _).alloc _) hb
  replace S2 : Hid (Sl w1 A2 l2 c2) := Sl.below (((S2.out.alloc _).alloc _).alloc _) hb
  replace S3 : Hid (Sl w1 A3 l3 c3) := Sl.below (((S3.out.alloc _).alloc _).alloc _) hb
  replace S4 : Hid (Sl w1 A4 l4 c4) := Sl.below (((S4.out.alloc _).alloc _).alloc _) hb
  have Fo : Hid (Ff w1 (w.heap.size + 1 + 1)) := Ff.keep (Ff.fresh (by simp) _ _) (Cf.fresh (by simp) _ _ _ _ _ _ _ _ _) hb
  have Ka : Hid (Cf w1 w.heap.size n1 A1 l1.length c1 n2 A2 l2.length c2) := Cf.keep (Cf.keep (Cf.keep (Cf.fresh (by simp) _ _ _ _ _ _ _ _ _) (blw1 _ _)) (blw1 _ _)) hb
  have Kb : Hid (Cf w1 (w.heap.size + 1) n3 A3 l3.length c3 n4 A4 l4.length c4) := Cf.keep (Cf.keep (Cf.fresh (by simp) _ _ _ _ _ _ _ _ _) (blw1 _ _)) hb
  have Ko : Hid (Cf w1 (w.heap.size + 1 + 1) false none 0 0 false none 0 0) := Cf.keep (Cf.fresh (by simp) _ _ _ _ _ _ _ _ _) hb
  replace B : Hid (Below w.heap.size w w1) := below_mono (below_mono (below_mono (below_mono B.out (blw1 _ _)) (blw1 _ _)) (blw1 _ _)) hb
  clear hb
  (try dsimp only at hsp hsq)
  (try dsimp only)
  have Sp : Hid (Sl w1 A5 lp c5) := hsp
  clear hsp
  have Sq : Hid (Sl w1 A6 lq c6) := hsq
  clear hsq
  obtain ⟨qo0, qo1, qo2, qo3⟩ := Ko.out
  obtain ⟨fo0, fo1, fo2, fo3⟩ := Fo.out
  have hza : w.heap.size < w1.heap.size := lt_of_cell (a := ⟨w.heap.size, 0, none⟩) Ka.out.1
  have hzb : w.heap.size + 1 < w1.heap.size := lt_of_cell (a := ⟨w.heap.size + 1, 0, none⟩) Kb.out.1
  have hzo : w.heap.size + 1 + 1 < w1.heap.size := lt_of_cell (a := ⟨w.heap.size + 1 + 1, 0, none⟩) Ko.out.1
  go_wp2_with fail
  exact bodyPost_ret (v := .tuple #[.agg #[.bool np, .slice A5 lp.length c5, .bool nq, .slice A6 lq.length c6], .int .i64 k]) (by simp [results, Tryz.results40, go_sem, qo0, qo1, qo2, qo3]) rfl (fres_store4 (r := ((np, lp), (nq, lq))) k Sp.out Sq.out Ko.out B.out (by omega) _ _ _ _)

theorem fdiv_good (n1 n2 n3 n4 : Bool) (A1 A2 A3 A4 : Option Addr) (l1 l2 l3 l4 : List Nat) (c1 c2 c3 c4 : Nat) (hg : (bothF n1 l1 n2 l2 n3 l3 n4 l4 divV).2 = 0 ∨ (bothF n1 l1 n2 l2 n3 l3 n4 l4 divV).2 = 18) (w : World) (hs1 : Sl w A1 l1 c1) (hs2 : Sl w A2 l2 c2) (hs3 : Sl w A3 l3 c3) (hs4 : Sl w A4 l4 c4) :
    Calls Tryz.prog 40 #[.agg #[.bool n1, .slice A1 l1.length c1, .bool n2, .slice A2 l2.length c2], .agg #[.bool n3, .slice A3 l3.length c3, .bool n4, .slice A4 l4.length c4]] w (FRes (bothF n1 l1 n2 l2 n3 l3 n4 l4 divV) w) :=
  fdiv_of n1 n2 n3 n4 A1 A2 A3 A4 l1 l2 l3 l4 c1 c2 c3 c4 (fun W a b c d => div_bothG n1 n2 n3 n4 A1 A2 A3 A4 l1 l2 l3 l4 c1 c2 c3 c4 hg W a b c d) w hs1 hs2 hs3 hs4

end Go.Proofs.YtmelbahbjdogdaaGreatDoor

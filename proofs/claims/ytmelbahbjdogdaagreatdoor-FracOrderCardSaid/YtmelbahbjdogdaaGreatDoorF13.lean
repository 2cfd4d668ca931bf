/- Walks: frac.Neg; the reference's Neg, Cmp, Twin. -/
import Derived.Test.YtmelbahbjdogdaaGreatDoorF10
import Derived.Test.YtmelbahbjdogdaaGreatDoorW1
import Derived.Test.YtmelbahbjdogdaaGreatDoorMem
import Derived.Test.YtmelbahbjdogdaaGreatDoorInv
import Derived.Deep.RegionHeld3
namespace Go.Proofs.YtmelbahbjdogdaaGreatDoor
open Go.RowKit
attribute [local go_sem ↓] Go.wp_at_zero Go.wp_at_succ
theorem cell_far {w : World} {g h i j : Nat} (hne : h ≠ g) (x : Value) : (w.setCell ⟨g, j, none⟩ x).cell? ⟨h, i, none⟩ = w.cell? ⟨h, i, none⟩ :=
  World.cell?_setCell_other _ _ _ _ (by intro e; exact hne (congrArg Addr.block e).symm)

theorem far1 {w : World} {g h j : Nat} {v0 v1 v2 v3 : Value} (hne : h ≠ g) (x : Value) (k : w.cell? ⟨h, 0, none⟩ = some v0 ∧ w.cell? ⟨h, 1, none⟩ = some v1 ∧ w.cell? ⟨h, 2, none⟩ = some v2 ∧ w.cell? ⟨h, 3, none⟩ = some v3) :
    (w.setCell ⟨g, j, none⟩ x).cell? ⟨h, 0, none⟩ = some v0 ∧ (w.setCell ⟨g, j, none⟩ x).cell? ⟨h, 1, none⟩ = some v1 ∧ (w.setCell ⟨g, j, none⟩ x).cell? ⟨h, 2, none⟩ = some v2 ∧ (w.setCell ⟨g, j, none⟩ x).cell? ⟨h, 3, none⟩ = some v3 :=
  ⟨(cell_far hne x).trans k.1, (cell_far hne x).trans k.2.1, (cell_far hne x).trans k.2.2.1, (cell_far hne x).trans k.2.2.2⟩

end Go.Proofs.YtmelbahbjdogdaaGreatDoor
/- Walk: frac.Cmp. -/
namespace Go.Proofs.YtmelbahbjdogdaaGreatDoor
open Go.RowKit
attribute [local go_sem ↓] Go.wp_at_zero Go.wp_at_succ
/-- Two int64's handed back. -/
def IRes (a b : Int) (w : World) : Ending → World → Prop := fun e w' => e = .returned (.tuple #[.int .i64 a, .int .i64 b]) ∧ Below w.heap.size w w'

theorem ires_fall {a b : Int} {w w2 : World} {g : Nat} (hb : Below w.heap.size w w2) (hg : w.heap.size ≤ g) (v : Value) (o : Obj) : IRes a b w (.returned (.tuple #[.int .i64 a, .int .i64 b])) ((w2.setCell ⟨g, 0, none⟩ v).alloc o) :=
  ⟨rfl, below_mono (hb.setCell (p := ⟨g, 0, none⟩) hg v) (blw1 _ _)⟩

theorem far8 {w : World} {g ga gb j : Nat} {a0 a1 a2 a3 b0 b1 b2 b3 : Value} (h1 : ga ≠ g) (h2 : gb ≠ g) (x : Value) (h : w.cell? ⟨ga, 0, none⟩ = some a0 ∧ w.cell? ⟨ga, 1, none⟩ = some a1 ∧ w.cell? ⟨ga, 2, none⟩ = some a2 ∧ w.cell? ⟨ga, 3, none⟩ = some a3 ∧ w.cell? ⟨gb, 0, none⟩ = some b0 ∧ w.cell? ⟨gb, 1, none⟩ = some b1 ∧ w.cell? ⟨gb, 2, none⟩ = some b2 ∧ w.cell? ⟨gb, 3, none⟩ = some b3) :
    (w.setCell ⟨g, j, none⟩ x).cell? ⟨ga, 0, none⟩ = some a0 ∧ (w.setCell ⟨g, j, none⟩ x).cell? ⟨ga, 1, none⟩ = some a1 ∧ (w.setCell ⟨g, j, none⟩ x).cell? ⟨ga, 2, none⟩ = some a2 ∧ (w.setCell ⟨g, j, none⟩ x).cell? ⟨ga, 3, none⟩ = some a3 ∧ (w.setCell ⟨g, j, none⟩ x).cell? ⟨gb, 0, none⟩ = some b0 ∧ (w.setCell ⟨g, j, none⟩ x).cell? ⟨gb, 1, none⟩ = some b1 ∧ (w.setCell ⟨g, j, none⟩ x).cell? ⟨gb, 2, none⟩ = some b2 ∧ (w.setCell ⟨g, j, none⟩ x).cell? ⟨gb, 3, none⟩ = some b3 := by
  obtain ⟨p0, p1, p2, p3, q0, q1, q2, q3⟩ := h
  exact ⟨(cell_far h1 x).trans p0, (cell_far h1 x).trans p1, (cell_far h1 x).trans p2, (cell_far h1 x).trans p3, (cell_far h2 x).trans q0, (cell_far h2 x).trans q1, (cell_far h2 x).trans q2, (cell_far h2 x).trans q3⟩

/-- What holds where a region of Cmp panics. -/
def PQ (d : List Deferred) (E : Nat) (w : World) : Exit → Act → World → Prop := fun e a w' =>
  ∃ c, e = .panic c ∧ c = [{ v := .iface 115 (.agg #[.int .i64 16]), recovered := false }] ∧ a.defers = d ∧ a.tmps.getD 4 undef = .int .i64 0 ∧ a.tmps.getD 5 undef = .pointer (some ⟨E, 0, none⟩) ∧ C1 w' E (.int .i64 0) ∧ Below w.heap.size w w'

theorem pq_put {d : List Deferred} {E : Nat} {w w' : World} {c : List PanicEntry} {a : Act} {i : Nat} {v : Value} (hi : i ≠ 4) (hj : i ≠ 5) (h : PQ d E w (.panic c) (a.put (some i) v) w') : PQ d E w (.panic c) a w' := by
  obtain ⟨c', e, h1, h2, h3, h6, h4, h5⟩ := h
  refine ⟨c', e, h1, h2, ?_, ?_, h4, h5⟩
  · simp only [Act.put] at h3
    rw [← h3]
    simp [Array.getD_eq_getD_getElem?, Array.getElem?_setIfInBounds_ne hi]
  · simp only [Act.put] at h6
    rw [← h6]
    simp [Array.getD_eq_getD_getElem?, Array.getElem?_setIfInBounds_ne hj]

set_option maxRecDepth 100000 in
set_option maxHeartbeats 4000000 in
theorem fcmp_any (n1 n2 n3 n4 : Bool) (A1 A2 A3 A4 : Option Addr) (l1 l2 l3 l4 : List Nat) (c1 c2 c3 c4 : Nat) (w : World) (hs1 : Sl w A1 l1 c1) (hs2 : Sl w A2 l2 c2) (hs3 : Sl w A3 l3 c3) (hs4 : Sl w A4 l4 c4) :
    Calls Tryz.prog 36 #[.agg #[.bool n1, .slice A1 l1.length c1, .bool n2, .slice A2 l2.length c2], .agg #[.bool n3, .slice A3 l3.length c3, .bool n4, .slice A4 l4.length c4]] w (IRes (cmpF n1 l1 n2 l2 n3 l3 n4 l4).1 (cmpF n1 l1 n2 l2 n3 l3 n4 l4).2 w) := by
  have S1 := Lib.hid hs1
  have S2 := Lib.hid hs2
  have S3 := Lib.hid hs3
  have S4 := Lib.hid hs4
  have B : Hid (Below w.heap.size w w) := Below.refl _ _
  cases hb1 : badF n1 l1 n2 l2 with
  | true =>
    have hr : cmpF n1 l1 n2 l2 n3 l3 n4 l4 = (0, 8) := by unfold cmpF; rw [hb1]; rfl
    have e1 : Hid (chkF n1 l1 n2 l2 = 8) := by unfold chkF; rw [hb1]; rfl
    rw [hr]
    clear hs1 hs2 hs3 hs4 hr hb1
    go_enter_defers Tryz.func36, Tryz.ntmps36
    go_wp2_with fail
    refine (fcheck_any n1 n2 A1 A2 l1 l2 c1 c2 _ (((S1.out.alloc _).alloc _).alloc _) (((S2.out.alloc _).alloc _).alloc _)).mono ?_
    rw [e1.out]
    rintro e w1 ⟨rfl, hb⟩
    replace S1 : Hid (Sl w1 A1 l1 c1) := Sl.below (((S1.out.alloc _).alloc _).alloc _) hb
    replace S2 : Hid (Sl w1 A2 l2 c2) := Sl.below (((S2.out.alloc _).alloc _).alloc _) hb
    replace S3 : Hid (Sl w1 A3 l3 c3) := Sl.below (((S3.out.alloc _).alloc _).alloc _) hb
    replace S4 : Hid (Sl w1 A4 l4 c4) := Sl.below (((S4.out.alloc _).alloc _).alloc _) hb
    have Ka : Hid (Cf w1 w.heap.size n1 A1 l1.length c1 n2 A2 l2.length c2) := Cf.keep (Cf.keep (Cf.keep (Cf.fresh (by simp) _ _ _ _ _ _ _ _ _) (blw1 _ _)) (blw1 _ _)) hb
    have Kb : Hid (Cf w1 (w.heap.size + 1) n3 A3 l3.length c3 n4 A4 l4.length c4) := Cf.keep (Cf.keep (Cf.fresh (by simp) _ _ _ _ _ _ _ _ _) (blw1 _ _)) hb
    have Ke : Hid (C1 w1 (w.heap.size + 1 + 1) (.int .i64 0)) := C1.keep (C1.fresh (by simp) _ _) hb
    replace B : Hid (Below w.heap.size w w1) := below_mono (below_mono (below_mono (below_mono B.out (blw1 _ _)) (blw1 _ _)) (blw1 _ _)) hb
    clear hb
    obtain ⟨qa0, qa1, qa2, qa3⟩ := Ka.out
    obtain ⟨qb0, qb1, qb2, qb3⟩ := Kb.out
    have hza : w.heap.size < w1.heap.size := lt_of_cell (a := ⟨w.heap.size, 0, none⟩) Ka.out.1
    have hzb : w.heap.size + 1 < w1.heap.size := lt_of_cell (a := ⟨w.heap.size + 1, 0, none⟩) Kb.out.1
    have hze : w.heap.size + 1 + 1 < w1.heap.size := lt_of_cell (a := ⟨w.heap.size + 1 + 1, 0, none⟩) Ke.out.1
    go_wp2_with fail
    refine (want_bad 8 (by decide) _).mono ?_
    rintro e w2 ⟨rfl, hb⟩
    clear qa0 qa1 qa2 qa3 qb0 qb1 qb2 qb3
    replace S1 : Hid (Sl w2 A1 l1 c1) := Sl.below S1.out hb
    replace S2 : Hid (Sl w2 A2 l2 c2) := Sl.below S2.out hb
    replace S3 : Hid (Sl w2 A3 l3 c3) := Sl.below S3.out hb
    replace S4 : Hid (Sl w2 A4 l4 c4) := Sl.below S4.out hb
    replace Ka : Hid (Cf w2 w.heap.size n1 A1 l1.length c1 n2 A2 l2.length c2) := Cf.keep Ka.out hb
    replace Kb : Hid (Cf w2 (w.heap.size + 1) n3 A3 l3.length c3 n4 A4 l4.length c4) := Cf.keep Kb.out hb
    replace Ke : Hid (C1 w2 (w.heap.size + 1 + 1) (.int .i64 0)) := C1.keep Ke.out hb
    replace B : Hid (Below w.heap.size w w2) := below_mono B.out hb
    clear hb
    go_wp2_with fail
    refine leaves_cons (f := 46) (args := #[.pointer (some ⟨w.heap.size + 1 + 1, 0, none⟩)]) (by simp) (by simp [go_sem]) ?_
    refine (catch_fall (w.heap.size + 1 + 1) 0 8 [] _ Ke.out).mono ?_
    rintro e u' w'' ⟨rfl, rfl, ob, rfl⟩
    have hze3 : w.heap.size + 1 + 1 < w2.heap.size := lt_of_cell (a := ⟨w.heap.size + 1 + 1, 0, none⟩) Ke.out.1
    simp [Leaves, settle, results, Tryz.results36, go_sem, hze3, Ke.out.1]
    exact ires_fall B.out (by omega) _ _
  | false =>
    have e1 : Hid (chkF n1 l1 n2 l2 = 0) := by unfold chkF; rw [hb1]; rfl
    cases hb2 : badF n3 l3 n4 l4 with
    | true =>
      have hr : cmpF n1 l1 n2 l2 n3 l3 n4 l4 = (0, 8) := by unfold cmpF; rw [hb1, hb2]; rfl
      have e2 : Hid (chkF n3 l3 n4 l4 = 8) := by unfold chkF; rw [hb2]; rfl
      rw [hr]
      clear hs1 hs2 hs3 hs4 hr hb1 hb2
      go_enter_defers Tryz.func36, Tryz.ntmps36
      go_wp2_with fail
      refine (fcheck_any n1 n2 A1 A2 l1 l2 c1 c2 _ (((S1.out.alloc _).alloc _).alloc _) (((S2.out.alloc _).alloc _).alloc _)).mono ?_
      rw [e1.out]
      rintro e w1 ⟨rfl, hb⟩
      replace S1 : Hid (Sl w1 A1 l1 c1) := Sl.below (((S1.out.alloc _).alloc _).alloc _) hb
      replace S2 : Hid (Sl w1 A2 l2 c2) := Sl.below (((S2.out.alloc _).alloc _).alloc _) hb
      replace S3 : Hid (Sl w1 A3 l3 c3) := Sl.below (((S3.out.alloc _).alloc _).alloc _) hb
      replace S4 : Hid (Sl w1 A4 l4 c4) := Sl.below (((S4.out.alloc _).alloc _).alloc _) hb
      have Ka : Hid (Cf w1 w.heap.size n1 A1 l1.length c1 n2 A2 l2.length c2) := Cf.keep (Cf.keep (Cf.keep (Cf.fresh (by simp) _ _ _ _ _ _ _ _ _) (blw1 _ _)) (blw1 _ _)) hb
      have Kb : Hid (Cf w1 (w.heap.size + 1) n3 A3 l3.length c3 n4 A4 l4.length c4) := Cf.keep (Cf.keep (Cf.fresh (by simp) _ _ _ _ _ _ _ _ _) (blw1 _ _)) hb
      have Ke : Hid (C1 w1 (w.heap.size + 1 + 1) (.int .i64 0)) := C1.keep (C1.fresh (by simp) _ _) hb
      replace B : Hid (Below w.heap.size w w1) := below_mono (below_mono (below_mono (below_mono B.out (blw1 _ _)) (blw1 _ _)) (blw1 _ _)) hb
      clear hb
      obtain ⟨qa0, qa1, qa2, qa3⟩ := Ka.out
      obtain ⟨qb0, qb1, qb2, qb3⟩ := Kb.out
      have hza : w.heap.size < w1.heap.size := lt_of_cell (a := ⟨w.heap.size, 0, none⟩) Ka.out.1
      have hzb : w.heap.size + 1 < w1.heap.size := lt_of_cell (a := ⟨w.heap.size + 1, 0, none⟩) Kb.out.1
      have hze : w.heap.size + 1 + 1 < w1.heap.size := lt_of_cell (a := ⟨w.heap.size + 1 + 1, 0, none⟩) Ke.out.1
      go_wp2_with fail
      refine (want_ok _).mono ?_
      rintro e w2 ⟨rfl, hb⟩
      clear qa0 qa1 qa2 qa3 qb0 qb1 qb2 qb3
      replace S1 : Hid (Sl w2 A1 l1 c1) := Sl.below S1.out hb
      replace S2 : Hid (Sl w2 A2 l2 c2) := Sl.below S2.out hb
      replace S3 : Hid (Sl w2 A3 l3 c3) := Sl.below S3.out hb
      replace S4 : Hid (Sl w2 A4 l4 c4) := Sl.below S4.out hb
      replace Ka : Hid (Cf w2 w.heap.size n1 A1 l1.length c1 n2 A2 l2.length c2) := Cf.keep Ka.out hb
      replace Kb : Hid (Cf w2 (w.heap.size + 1) n3 A3 l3.length c3 n4 A4 l4.length c4) := Cf.keep Kb.out hb
      replace Ke : Hid (C1 w2 (w.heap.size + 1 + 1) (.int .i64 0)) := C1.keep Ke.out hb
      replace B : Hid (Below w.heap.size w w2) := below_mono B.out hb
      clear hb
      obtain ⟨qa0, qa1, qa2, qa3⟩ := Ka.out
      obtain ⟨qb0, qb1, qb2, qb3⟩ := Kb.out
      replace hza : w.heap.size < w2.heap.size := lt_of_cell (a := ⟨w.heap.size, 0, none⟩) Ka.out.1
      replace hzb : w.heap.size + 1 < w2.heap.size := lt_of_cell (a := ⟨w.heap.size + 1, 0, none⟩) Kb.out.1
      replace hze : w.heap.size + 1 + 1 < w2.heap.size := lt_of_cell (a := ⟨w.heap.size + 1 + 1, 0, none⟩) Ke.out.1
      go_wp2_with fail
      refine (fcheck_any n3 n4 A3 A4 l3 l4 c3 c4 _ S3.out S4.out).mono ?_
      rw [e2.out]
      rintro e w3 ⟨rfl, hb⟩
      clear qa0 qa1 qa2 qa3 qb0 qb1 qb2 qb3
      replace S1 : Hid (Sl w3 A1 l1 c1) := Sl.below S1.out hb
      replace S2 : Hid (Sl w3 A2 l2 c2) := Sl.below S2.out hb
      replace S3 : Hid (Sl w3 A3 l3 c3) := Sl.below S3.out hb
      replace S4 : Hid (Sl w3 A4 l4 c4) := Sl.below S4.out hb
      replace Ka : Hid (Cf w3 w.heap.size n1 A1 l1.length c1 n2 A2 l2.length c2) := Cf.keep Ka.out hb
      replace Kb : Hid (Cf w3 (w.heap.size + 1) n3 A3 l3.length c3 n4 A4 l4.length c4) := Cf.keep Kb.out hb
      replace Ke : Hid (C1 w3 (w.heap.size + 1 + 1) (.int .i64 0)) := C1.keep Ke.out hb
      replace B : Hid (Below w.heap.size w w3) := below_mono B.out hb
      clear hb
      obtain ⟨qa0, qa1, qa2, qa3⟩ := Ka.out
      obtain ⟨qb0, qb1, qb2, qb3⟩ := Kb.out
      replace hza : w.heap.size < w3.heap.size := lt_of_cell (a := ⟨w.heap.size, 0, none⟩) Ka.out.1
      replace hzb : w.heap.size + 1 < w3.heap.size := lt_of_cell (a := ⟨w.heap.size + 1, 0, none⟩) Kb.out.1
      replace hze : w.heap.size + 1 + 1 < w3.heap.size := lt_of_cell (a := ⟨w.heap.size + 1 + 1, 0, none⟩) Ke.out.1
      go_wp2_with fail
      refine (want_bad 8 (by decide) _).mono ?_
      rintro e w4 ⟨rfl, hb⟩
      clear qa0 qa1 qa2 qa3 qb0 qb1 qb2 qb3
      replace S1 : Hid (Sl w4 A1 l1 c1) := Sl.below S1.out hb
      replace S2 : Hid (Sl w4 A2 l2 c2) := Sl.below S2.out hb
      replace S3 : Hid (Sl w4 A3 l3 c3) := Sl.below S3.out hb
      replace S4 : Hid (Sl w4 A4 l4 c4) := Sl.below S4.out hb
      replace Ka : Hid (Cf w4 w.heap.size n1 A1 l1.length c1 n2 A2 l2.length c2) := Cf.keep Ka.out hb
      replace Kb : Hid (Cf w4 (w.heap.size + 1) n3 A3 l3.length c3 n4 A4 l4.length c4) := Cf.keep Kb.out hb
      replace Ke : Hid (C1 w4 (w.heap.size + 1 + 1) (.int .i64 0)) := C1.keep Ke.out hb
      replace B : Hid (Below w.heap.size w w4) := below_mono B.out hb
      clear hb
      go_wp2_with fail
      refine leaves_cons (f := 46) (args := #[.pointer (some ⟨w.heap.size + 1 + 1, 0, none⟩)]) (by simp) (by simp [go_sem]) ?_
      refine (catch_fall (w.heap.size + 1 + 1) 0 8 [] _ Ke.out).mono ?_
      rintro e u' w'' ⟨rfl, rfl, ob, rfl⟩
      have hze3 : w.heap.size + 1 + 1 < w4.heap.size := lt_of_cell (a := ⟨w.heap.size + 1 + 1, 0, none⟩) Ke.out.1
      simp [Leaves, settle, results, Tryz.results36, go_sem, hze3, Ke.out.1]
      exact ires_fall B.out (by omega) _ _
    | false =>
      have e2 : Hid (chkF n3 l3 n4 l4 = 0) := by unfold chkF; rw [hb2]; rfl
      have va := vf_of hs1.lim hs2.lim hb1
      have vb := vf_of hs3.lim hs4.lim hb2
      rw [cmpF_good va vb]
      obtain ⟨h1, h2, _, _⟩ := va
      obtain ⟨h3, h4, _, _⟩ := vb
      generalize zv n1 l1 = x1 at *
      generalize zv n2 l2 = y1 at *
      generalize zv n3 l3 = x2 at *
      generalize zv n4 l4 = y2 at *
      unfold cmpV
      cases f0 : fitB (x1 * y2) with
      | false =>
        rw [if_neg (by simp)]
        have H0 : Hid (∀ W, Sl W A1 l1 c1 → Sl W A2 l2 c2 → Sl W A3 l3 c3 → Sl W A4 l4 c4 → Calls Tryz.prog 87 #[.agg #[.bool n1, .slice A1 l1.length c1, .bool n2, .slice A2 l2.length c2], .agg #[.bool n3, .slice A3 l3.length c3, .bool n4, .slice A4 l4.length c4]] W (Falls 16 W)) := fun W a b c d => cross_bad n1 n2 n3 n4 A1 A2 A3 A4 l1 l2 l3 l4 c1 c2 c3 c4 x1 y2 h1 h4 (fun e => by rw [fitB_iff.2 e] at f0; cases f0) W a b c d
        clear hs1 hs2 hs3 hs4 hb1 hb2 h1 h2 h3 h4 f0
        go_enter_defers Tryz.func36, Tryz.ntmps36
        go_wp2_with fail
        refine (fcheck_any n1 n2 A1 A2 l1 l2 c1 c2 _ (((S1.out.alloc _).alloc _).alloc _) (((S2.out.alloc _).alloc _).alloc _)).mono ?_
        rw [e1.out]
        rintro e w1 ⟨rfl, hb⟩
        replace S1 : Hid (Sl w1 A1 l1 c1) := Sl.below (((S1.out.alloc _).alloc _).alloc _) hb
        replace S2 : Hid (Sl w1 A2 l2 c2) := Sl.below (((S2.out.alloc _).alloc _).alloc _) hb
        replace S3 : Hid (Sl w1 A3 l3 c3) := Sl.below (((S3.out.alloc _).alloc _).alloc _) hb
        replace S4 : Hid (Sl w1 A4 l4 c4) := Sl.below (((S4.out.alloc _).alloc _).alloc _) hb
        have Ka : Hid (Cf w1 w.heap.size n1 A1 l1.length c1 n2 A2 l2.length c2) := Cf.keep (Cf.keep (Cf.keep (Cf.fresh (by simp) _ _ _ _ _ _ _ _ _) (blw1 _ _)) (blw1 _ _)) hb
        have Kb : Hid (Cf w1 (w.heap.size + 1) n3 A3 l3.length c3 n4 A4 l4.length c4) := Cf.keep (Cf.keep (Cf.fresh (by simp) _ _ _ _ _ _ _ _ _) (blw1 _ _)) hb
        have Ke : Hid (C1 w1 (w.heap.size + 1 + 1) (.int .i64 0)) := C1.keep (C1.fresh (by simp) _ _) hb
        replace B : Hid (Below w.heap.size w w1) := below_mono (below_mono (below_mono (below_mono B.out (blw1 _ _)) (blw1 _ _)) (blw1 _ _)) hb
        clear hb
        obtain ⟨qa0, qa1, qa2, qa3⟩ := Ka.out
        obtain ⟨qb0, qb1, qb2, qb3⟩ := Kb.out
        have hza : w.heap.size < w1.heap.size := lt_of_cell (a := ⟨w.heap.size, 0, none⟩) Ka.out.1
        have hzb : w.heap.size + 1 < w1.heap.size := lt_of_cell (a := ⟨w.heap.size + 1, 0, none⟩) Kb.out.1
        have hze : w.heap.size + 1 + 1 < w1.heap.size := lt_of_cell (a := ⟨w.heap.size + 1 + 1, 0, none⟩) Ke.out.1
        go_wp2_with fail
        refine (want_ok _).mono ?_
        rintro e w2 ⟨rfl, hb⟩
        clear qa0 qa1 qa2 qa3 qb0 qb1 qb2 qb3
        replace S1 : Hid (Sl w2 A1 l1 c1) := Sl.below S1.out hb
        replace S2 : Hid (Sl w2 A2 l2 c2) := Sl.below S2.out hb
        replace S3 : Hid (Sl w2 A3 l3 c3) := Sl.below S3.out hb
        replace S4 : Hid (Sl w2 A4 l4 c4) := Sl.below S4.out hb
        replace Ka : Hid (Cf w2 w.heap.size n1 A1 l1.length c1 n2 A2 l2.length c2) := Cf.keep Ka.out hb
        replace Kb : Hid (Cf w2 (w.heap.size + 1) n3 A3 l3.length c3 n4 A4 l4.length c4) := Cf.keep Kb.out hb
        replace Ke : Hid (C1 w2 (w.heap.size + 1 + 1) (.int .i64 0)) := C1.keep Ke.out hb
        replace B : Hid (Below w.heap.size w w2) := below_mono B.out hb
        clear hb
        obtain ⟨qa0, qa1, qa2, qa3⟩ := Ka.out
        obtain ⟨qb0, qb1, qb2, qb3⟩ := Kb.out
        replace hza : w.heap.size < w2.heap.size := lt_of_cell (a := ⟨w.heap.size, 0, none⟩) Ka.out.1
        replace hzb : w.heap.size + 1 < w2.heap.size := lt_of_cell (a := ⟨w.heap.size + 1, 0, none⟩) Kb.out.1
        replace hze : w.heap.size + 1 + 1 < w2.heap.size := lt_of_cell (a := ⟨w.heap.size + 1 + 1, 0, none⟩) Ke.out.1
        go_wp2_with fail
        refine (fcheck_any n3 n4 A3 A4 l3 l4 c3 c4 _ S3.out S4.out).mono ?_
        rw [e2.out]
        rintro e w3 ⟨rfl, hb⟩
        clear qa0 qa1 qa2 qa3 qb0 qb1 qb2 qb3
        replace S1 : Hid (Sl w3 A1 l1 c1) := Sl.below S1.out hb
        replace S2 : Hid (Sl w3 A2 l2 c2) := Sl.below S2.out hb
        replace S3 : Hid (Sl w3 A3 l3 c3) := Sl.below S3.out hb
        replace S4 : Hid (Sl w3 A4 l4 c4) := Sl.below S4.out hb
        replace Ka : Hid (Cf w3 w.heap.size n1 A1 l1.length c1 n2 A2 l2.length c2) := Cf.keep Ka.out hb
        replace Kb : Hid (Cf w3 (w.heap.size + 1) n3 A3 l3.length c3 n4 A4 l4.length c4) := Cf.keep Kb.out hb
        replace Ke : Hid (C1 w3 (w.heap.size + 1 + 1) (.int .i64 0)) := C1.keep Ke.out hb
        replace B : Hid (Below w.heap.size w w3) := below_mono B.out hb
        clear hb
        obtain ⟨qa0, qa1, qa2, qa3⟩ := Ka.out
        obtain ⟨qb0, qb1, qb2, qb3⟩ := Kb.out
        replace hza : w.heap.size < w3.heap.size := lt_of_cell (a := ⟨w.heap.size, 0, none⟩) Ka.out.1
        replace hzb : w.heap.size + 1 < w3.heap.size := lt_of_cell (a := ⟨w.heap.size + 1, 0, none⟩) Kb.out.1
        replace hze : w.heap.size + 1 + 1 < w3.heap.size := lt_of_cell (a := ⟨w.heap.size + 1 + 1, 0, none⟩) Ke.out.1
        go_wp2_with fail
        refine (want_ok _).mono ?_
        rintro e w4 ⟨rfl, hb⟩
        clear qa0 qa1 qa2 qa3 qb0 qb1 qb2 qb3
        replace S1 : Hid (Sl w4 A1 l1 c1) := Sl.below S1.out hb
        replace S2 : Hid (Sl w4 A2 l2 c2) := Sl.below S2.out hb
        replace S3 : Hid (Sl w4 A3 l3 c3) := Sl.below S3.out hb
        replace S4 : Hid (Sl w4 A4 l4 c4) := Sl.below S4.out hb
        replace Ka : Hid (Cf w4 w.heap.size n1 A1 l1.length c1 n2 A2 l2.length c2) := Cf.keep Ka.out hb
        replace Kb : Hid (Cf w4 (w.heap.size + 1) n3 A3 l3.length c3 n4 A4 l4.length c4) := Cf.keep Kb.out hb
        replace Ke : Hid (C1 w4 (w.heap.size + 1 + 1) (.int .i64 0)) := C1.keep Ke.out hb
        replace B : Hid (Below w.heap.size w w4) := below_mono B.out hb
        clear hb
        obtain ⟨qa0, qa1, qa2, qa3⟩ := Ka.out
        obtain ⟨qb0, qb1, qb2, qb3⟩ := Kb.out
        replace hza : w.heap.size < w4.heap.size := lt_of_cell (a := ⟨w.heap.size, 0, none⟩) Ka.out.1
        replace hzb : w.heap.size + 1 < w4.heap.size := lt_of_cell (a := ⟨w.heap.size + 1, 0, none⟩) Kb.out.1
        replace hze : w.heap.size + 1 + 1 < w4.heap.size := lt_of_cell (a := ⟨w.heap.size + 1 + 1, 0, none⟩) Ke.out.1
        go_wp2_with fail
        clear qa0 qa1 qa2 qa3 qb0 qb1 qb2 qb3
        have KaX : Hid (Cf w4.drew w.heap.size n1 A1 l1.length c1 n2 A2 l2.length c2) := Cf.drew Ka.out
        have KbX : Hid (Cf w4.drew (w.heap.size + 1) n3 A3 l3.length c3 n4 A4 l4.length c4) := Cf.drew Kb.out
        have KeX : Hid (C1 w4.drew (w.heap.size + 1 + 1) (.int .i64 0)) := Ke.out
        have S1X : Hid (Sl w4.drew A1 l1 c1) := Sl.drew S1.out
        have S2X : Hid (Sl w4.drew A2 l2 c2) := Sl.drew S2.out
        have S3X : Hid (Sl w4.drew A3 l3 c3) := Sl.drew S3.out
        have S4X : Hid (Sl w4.drew A4 l4 c4) := Sl.drew S4.out
        have BX : Hid (Below w.heap.size w w4.drew) := Below.drew B.out
        clear S1 S2 S3 S4 B Ka Kb Ke hza hzb hze
        have J0 : Hid (w4.drew.cell? ⟨w.heap.size, 0, none⟩ = some (.bool n1) ∧ w4.drew.cell? ⟨w.heap.size, 1, none⟩ = some (.slice A1 l1.length c1) ∧ w4.drew.cell? ⟨w.heap.size, 2, none⟩ = some (.bool n2) ∧ w4.drew.cell? ⟨w.heap.size, 3, none⟩ = some (.slice A2 l2.length c2) ∧ w4.drew.cell? ⟨w.heap.size + 1, 0, none⟩ = some (.bool n3) ∧ w4.drew.cell? ⟨w.heap.size + 1, 1, none⟩ = some (.slice A3 l3.length c3) ∧ w4.drew.cell? ⟨w.heap.size + 1, 2, none⟩ = some (.bool n4) ∧ w4.drew.cell? ⟨w.heap.size + 1, 3, none⟩ = some (.slice A4 l4.length c4)) := ⟨KaX.out.1, KaX.out.2.1, KaX.out.2.2.1, KaX.out.2.2.2, KbX.out.1, KbX.out.2.1, KbX.out.2.2.1, KbX.out.2.2.2⟩
        refine Code.wp_mono (Q := PQ [{ target := .fn (.func 46) #[], args := #[.pointer (some ⟨w.heap.size + 1 + 1, 0, none⟩)] }] (w.heap.size + 1 + 1) w) ?hm ?_
        case hm =>
          rintro e a w' ⟨c, rfl, rfl, hd, h4, h6, hc, hb⟩
          show Leaves Tryz.prog Tryz.f36 a.tmps _ a.defers _ w'
          rw [hd]
          refine leaves_cons (f := 46) (args := #[.pointer (some ⟨w.heap.size + 1 + 1, 0, none⟩)]) (by simp) (by simp [go_sem]) ?_
          refine (catch_fall (w.heap.size + 1 + 1) 0 16 [] _ hc).mono ?_
          rintro e u' w'' ⟨rfl, rfl, ob, rfl⟩
          have hze3 : w.heap.size + 1 + 1 < w'.heap.size := lt_of_cell (a := ⟨w.heap.size + 1 + 1, 0, none⟩) hc.1
          refine (show Leaves _ _ _ _ [] .returning _ from ⟨.tuple #[.int .i64 0, .int .i64 16], ?_, ires_fall hb (by omega) _ _⟩)
          have h7 : a.tmps[5]?.getD undef = .pointer (some ⟨w.heap.size + 1 + 1, 0, none⟩) := by rw [← h6, Array.getD_eq_getD_getElem?]
          have h5 : a.tmps[4]?.getD undef = .int .i64 0 := by rw [← h4, Array.getD_eq_getD_getElem?]
          simp [results, Tryz.results36, go_sem, hze3, hc.1, h5, h7]
        refine wp_region_held_drew (S := fun w' => w'.cell? ⟨w.heap.size, 0, none⟩ = some (.bool n1) ∧ w'.cell? ⟨w.heap.size, 1, none⟩ = some (.slice A1 l1.length c1) ∧ w'.cell? ⟨w.heap.size, 2, none⟩ = some (.bool n2) ∧ w'.cell? ⟨w.heap.size, 3, none⟩ = some (.slice A2 l2.length c2) ∧ w'.cell? ⟨w.heap.size + 1, 0, none⟩ = some (.bool n3) ∧ w'.cell? ⟨w.heap.size + 1, 1, none⟩ = some (.slice A3 l3.length c3) ∧ w'.cell? ⟨w.heap.size + 1, 2, none⟩ = some (.bool n4) ∧ w'.cell? ⟨w.heap.size + 1, 3, none⟩ = some (.slice A4 l4.length c4)) (by kernel_rfl) J0.out (fun hHeld => ?_)
        refine wpAnyH_take (i := 0) (v := .agg #[.bool n1, .slice A1 l1.length c1, .bool n2, .slice A2 l2.length c2]) rfl (by kernel_rfl) (by kernel_rfl) (by kernel_rfl) (fun _ _ _ h => pq_put (by decide) (by decide) h) (Or.inl ⟨by rfl, by intro w hSw; (try dsimp only at hSw); go_simp⟩) hHeld ?_
        (try simp only [Act.put])
        refine wpAnyH_take (i := 1) (v := .agg #[.bool n3, .slice A3 l3.length c3, .bool n4, .slice A4 l4.length c4]) rfl (by kernel_rfl) (by kernel_rfl) (by kernel_rfl) (fun _ _ _ h => pq_put (by decide) (by decide) h) (Or.inl ⟨by rfl, by intro w hSw; (try dsimp only at hSw); go_simp⟩) hHeld ?_
        (try simp only [Act.put])
        refine wpAnyH_take (i := 3) (v := .agg #[.bool n3, .slice A3 l3.length c3, .bool n4, .slice A4 l4.length c4]) rfl (by kernel_rfl) (by kernel_rfl) (by kernel_rfl) (fun _ _ _ h => pq_put (by decide) (by decide) h) (Or.inl ⟨by rfl, by intro w hSw; (try dsimp only at hSw); go_simp⟩) hHeld ?_
        (try simp only [Act.put])
        refine wpAnyH_take (i := 4) (v := .agg #[.bool n1, .slice A1 l1.length c1, .bool n2, .slice A2 l2.length c2]) rfl (by kernel_rfl) (by kernel_rfl) (by kernel_rfl) (fun _ _ _ h => pq_put (by decide) (by decide) h) (Or.inl ⟨by rfl, by intro w hSw; (try dsimp only at hSw); go_simp⟩) hHeld ?_
        (try simp only [Act.put])
        refine wpAnyH_ready (rs := [2]) (by kernel_rfl) (by simp) ?_
        refine AllReadyH.cons rfl (fun K hK => ?_) AllReadyH.nil
        go_simp
        refine (H0.out _ S1X.out S2X.out S3X.out S4X.out).mono ?_
        rintro e v1 ⟨rfl, hb⟩
        exact ⟨_, rfl, rfl, rfl, rfl, rfl, KeX.out.keep hb, below_mono BX.out hb⟩
      | true =>
        obtain ⟨n5, l5, r5⟩ : ∃ n l, wOf (x1 * y2) = (n, l) := ⟨_, _, rfl⟩
        have v5 := vz_mk r5.symm (fitB_iff.1 f0)
        have H0 : Hid (∀ W, Sl W A1 l1 c1 → Sl W A2 l2 c2 → Sl W A3 l3 c3 → Sl W A4 l4 c4 → Calls Tryz.prog 87 #[.agg #[.bool n1, .slice A1 l1.length c1, .bool n2, .slice A2 l2.length c2], .agg #[.bool n3, .slice A3 l3.length c3, .bool n4, .slice A4 l4.length c4]] W (WRes1 (n5, l5) W)) := fun W a b c d => by rw [← r5]; exact cross_ok n1 n2 n3 n4 A1 A2 A3 A4 l1 l2 l3 l4 c1 c2 c3 c4 x1 y2 h1 h4 (fitB_iff.1 f0) W a b c d
        cases f1 : fitB (x2 * y1) with
        | false =>
          rw [if_neg (by simp)]
          have H1 : Hid (∀ W, Sl W A1 l1 c1 → Sl W A2 l2 c2 → Sl W A3 l3 c3 → Sl W A4 l4 c4 → Calls Tryz.prog 87 #[.agg #[.bool n3, .slice A3 l3.length c3, .bool n4, .slice A4 l4.length c4], .agg #[.bool n1, .slice A1 l1.length c1, .bool n2, .slice A2 l2.length c2]] W (Falls 16 W)) := fun W a b c d => cross_bad n3 n4 n1 n2 A3 A4 A1 A2 l3 l4 l1 l2 c3 c4 c1 c2 x2 y1 h3 h2 (fun e => by rw [fitB_iff.2 e] at f1; cases f1) W c d a b
          clear hs1 hs2 hs3 hs4 hb1 hb2 h1 h2 h3 h4 f0 f1 v5 r5
          go_enter_defers Tryz.func36, Tryz.ntmps36
          go_wp2_with fail
          refine (fcheck_any n1 n2 A1 A2 l1 l2 c1 c2 _ (((S1.out.alloc _).alloc _).alloc _) (((S2.out.alloc _).alloc _).alloc _)).mono ?_
          rw [e1.out]
          rintro e w1 ⟨rfl, hb⟩
          replace S1 : Hid (Sl w1 A1 l1 c1) := Sl.below (((S1.out.alloc _).alloc _).alloc _) hb
          replace S2 : Hid (Sl w1 A2 l2 c2) := Sl.below (((S2.out.alloc _).alloc _).alloc _) hb
          replace S3 : Hid (Sl w1 A3 l3 c3) := Sl.below (((S3.out.alloc _).alloc _).alloc _) hb
          replace S4 : Hid (Sl w1 A4 l4 c4) := Sl.below (((S4.out.alloc _).alloc _).alloc _) hb
          have Ka : Hid (Cf w1 w.heap.size n1 A1 l1.length c1 n2 A2 l2.length c2) := Cf.keep (Cf.keep (Cf.keep (Cf.fresh (by simp) _ _ _ _ _ _ _ _ _) (blw1 _ _)) (blw1 _ _)) hb
          have Kb : Hid (Cf w1 (w.heap.size + 1) n3 A3 l3.length c3 n4 A4 l4.length c4) := Cf.keep (Cf.keep (Cf.fresh (by simp) _ _ _ _ _ _ _ _ _) (blw1 _ _)) hb
          have Ke : Hid (C1 w1 (w.heap.size + 1 + 1) (.int .i64 0)) := C1.keep (C1.fresh (by simp) _ _) hb
          replace B : Hid (Below w.heap.size w w1) := below_mono (below_mono (below_mono (below_mono B.out (blw1 _ _)) (blw1 _ _)) (blw1 _ _)) hb
          clear hb
          obtain ⟨qa0, qa1, qa2, qa3⟩ := Ka.out
          obtain ⟨qb0, qb1, qb2, qb3⟩ := Kb.out
          have hza : w.heap.size < w1.heap.size := lt_of_cell (a := ⟨w.heap.size, 0, none⟩) Ka.out.1
          have hzb : w.heap.size + 1 < w1.heap.size := lt_of_cell (a := ⟨w.heap.size + 1, 0, none⟩) Kb.out.1
          have hze : w.heap.size + 1 + 1 < w1.heap.size := lt_of_cell (a := ⟨w.heap.size + 1 + 1, 0, none⟩) Ke.out.1
          go_wp2_with fail
          refine (want_ok _).mono ?_
          rintro e w2 ⟨rfl, hb⟩
          clear qa0 qa1 qa2 qa3 qb0 qb1 qb2 qb3
          replace S1 : Hid (Sl w2 A1 l1 c1) := Sl.below S1.out hb
          replace S2 : Hid (Sl w2 A2 l2 c2) := Sl.below S2.out hb
          replace S3 : Hid (Sl w2 A3 l3 c3) := Sl.below S3.out hb
          replace S4 : Hid (Sl w2 A4 l4 c4) := Sl.below S4.out hb
          replace Ka : Hid (Cf w2 w.heap.size n1 A1 l1.length c1 n2 A2 l2.length c2) := Cf.keep Ka.out hb
          replace Kb : Hid (Cf w2 (w.heap.size + 1) n3 A3 l3.length c3 n4 A4 l4.length c4) := Cf.keep Kb.out hb
          replace Ke : Hid (C1 w2 (w.heap.size + 1 + 1) (.int .i64 0)) := C1.keep Ke.out hb
          replace B : Hid (Below w.heap.size w w2) := below_mono B.out hb
          clear hb
          obtain ⟨qa0, qa1, qa2, qa3⟩ := Ka.out
          obtain ⟨qb0, qb1, qb2, qb3⟩ := Kb.out
          replace hza : w.heap.size < w2.heap.size := lt_of_cell (a := ⟨w.heap.size, 0, none⟩) Ka.out.1
          replace hzb : w.heap.size + 1 < w2.heap.size := lt_of_cell (a := ⟨w.heap.size + 1, 0, none⟩) Kb.out.1
          replace hze : w.heap.size + 1 + 1 < w2.heap.size := lt_of_cell (a := ⟨w.heap.size + 1 + 1, 0, none⟩) Ke.out.1
          go_wp2_with fail
          refine (fcheck_any n3 n4 A3 A4 l3 l4 c3 c4 _ S3.out S4.out).mono ?_
          rw [e2.out]
          rintro e w3 ⟨rfl, hb⟩
          clear qa0 qa1 qa2 qa3 qb0 qb1 qb2 qb3
          replace S1 : Hid (Sl w3 A1 l1 c1) := Sl.below S1.out hb
          replace S2 : Hid (Sl w3 A2 l2 c2) := Sl.below S2.out hb
          replace S3 : Hid (Sl w3 A3 l3 c3) := Sl.below S3.out hb
          replace S4 : Hid (Sl w3 A4 l4 c4) := Sl.below S4.out hb
          replace Ka : Hid (Cf w3 w.heap.size n1 A1 l1.length c1 n2 A2 l2.length c2) := Cf.keep Ka.out hb
          replace Kb : Hid (Cf w3 (w.heap.size + 1) n3 A3 l3.length c3 n4 A4 l4.length c4) := Cf.keep Kb.out hb
          replace Ke : Hid (C1 w3 (w.heap.size + 1 + 1) (.int .i64 0)) := C1.keep Ke.out hb
          replace B : Hid (Below w.heap.size w w3) := below_mono B.out hb
          clear hb
          obtain ⟨qa0, qa1, qa2, qa3⟩ := Ka.out
          obtain ⟨qb0, qb1, qb2, qb3⟩ := Kb.out
          replace hza : w.heap.size < w3.heap.size := lt_of_cell (a := ⟨w.heap.size, 0, none⟩) Ka.out.1
          replace hzb : w.heap.size + 1 < w3.heap.size := lt_of_cell (a := ⟨w.heap.size + 1, 0, none⟩) Kb.out.1
          replace hze : w.heap.size + 1 + 1 < w3.heap.size := lt_of_cell (a := ⟨w.heap.size + 1 + 1, 0, none⟩) Ke.out.1
          go_wp2_with fail
          refine (want_ok _).mono ?_
          rintro e w4 ⟨rfl, hb⟩
          clear qa0 qa1 qa2 qa3 qb0 qb1 qb2 qb3
          replace S1 : Hid (Sl w4 A1 l1 c1) := Sl.below S1.out hb
          replace S2 : Hid (Sl w4 A2 l2 c2) := Sl.below S2.out hb
          replace S3 : Hid (Sl w4 A3 l3 c3) := Sl.below S3.out hb
          replace S4 : Hid (Sl w4 A4 l4 c4) := Sl.below S4.out hb
          replace Ka : Hid (Cf w4 w.heap.size n1 A1 l1.length c1 n2 A2 l2.length c2) := Cf.keep Ka.out hb
          replace Kb : Hid (Cf w4 (w.heap.size + 1) n3 A3 l3.length c3 n4 A4 l4.length c4) := Cf.keep Kb.out hb
          replace Ke : Hid (C1 w4 (w.heap.size + 1 + 1) (.int .i64 0)) := C1.keep Ke.out hb
          replace B : Hid (Below w.heap.size w w4) := below_mono B.out hb
          clear hb
          obtain ⟨qa0, qa1, qa2, qa3⟩ := Ka.out
          obtain ⟨qb0, qb1, qb2, qb3⟩ := Kb.out
          replace hza : w.heap.size < w4.heap.size := lt_of_cell (a := ⟨w.heap.size, 0, none⟩) Ka.out.1
          replace hzb : w.heap.size + 1 < w4.heap.size := lt_of_cell (a := ⟨w.heap.size + 1, 0, none⟩) Kb.out.1
          replace hze : w.heap.size + 1 + 1 < w4.heap.size := lt_of_cell (a := ⟨w.heap.size + 1 + 1, 0, none⟩) Ke.out.1
          go_wp2_with fail
          clear qa0 qa1 qa2 qa3 qb0 qb1 qb2 qb3
          have KaX : Hid (Cf w4.drew w.heap.size n1 A1 l1.length c1 n2 A2 l2.length c2) := Cf.drew Ka.out
          have KbX : Hid (Cf w4.drew (w.heap.size + 1) n3 A3 l3.length c3 n4 A4 l4.length c4) := Cf.drew Kb.out
          have KeX : Hid (C1 w4.drew (w.heap.size + 1 + 1) (.int .i64 0)) := Ke.out
          have S1X : Hid (Sl w4.drew A1 l1 c1) := Sl.drew S1.out
          have S2X : Hid (Sl w4.drew A2 l2 c2) := Sl.drew S2.out
          have S3X : Hid (Sl w4.drew A3 l3 c3) := Sl.drew S3.out
          have S4X : Hid (Sl w4.drew A4 l4 c4) := Sl.drew S4.out
          have BX : Hid (Below w.heap.size w w4.drew) := Below.drew B.out
          clear S1 S2 S3 S4 B Ka Kb Ke hza hzb hze
          have J0 : Hid (w4.drew.cell? ⟨w.heap.size, 0, none⟩ = some (.bool n1) ∧ w4.drew.cell? ⟨w.heap.size, 1, none⟩ = some (.slice A1 l1.length c1) ∧ w4.drew.cell? ⟨w.heap.size, 2, none⟩ = some (.bool n2) ∧ w4.drew.cell? ⟨w.heap.size, 3, none⟩ = some (.slice A2 l2.length c2) ∧ w4.drew.cell? ⟨w.heap.size + 1, 0, none⟩ = some (.bool n3) ∧ w4.drew.cell? ⟨w.heap.size + 1, 1, none⟩ = some (.slice A3 l3.length c3) ∧ w4.drew.cell? ⟨w.heap.size + 1, 2, none⟩ = some (.bool n4) ∧ w4.drew.cell? ⟨w.heap.size + 1, 3, none⟩ = some (.slice A4 l4.length c4)) := ⟨KaX.out.1, KaX.out.2.1, KaX.out.2.2.1, KaX.out.2.2.2, KbX.out.1, KbX.out.2.1, KbX.out.2.2.1, KbX.out.2.2.2⟩
          refine Code.wp_mono (Q := PQ [{ target := .fn (.func 46) #[], args := #[.pointer (some ⟨w.heap.size + 1 + 1, 0, none⟩)] }] (w.heap.size + 1 + 1) w) ?hm ?_
          case hm =>
            rintro e a w' ⟨c, rfl, rfl, hd, h4, h6, hc, hb⟩
            show Leaves Tryz.prog Tryz.f36 a.tmps _ a.defers _ w'
            rw [hd]
            refine leaves_cons (f := 46) (args := #[.pointer (some ⟨w.heap.size + 1 + 1, 0, none⟩)]) (by simp) (by simp [go_sem]) ?_
            refine (catch_fall (w.heap.size + 1 + 1) 0 16 [] _ hc).mono ?_
            rintro e u' w'' ⟨rfl, rfl, ob, rfl⟩
            have hze3 : w.heap.size + 1 + 1 < w'.heap.size := lt_of_cell (a := ⟨w.heap.size + 1 + 1, 0, none⟩) hc.1
            refine (show Leaves _ _ _ _ [] .returning _ from ⟨.tuple #[.int .i64 0, .int .i64 16], ?_, ires_fall hb (by omega) _ _⟩)
            have h7 : a.tmps[5]?.getD undef = .pointer (some ⟨w.heap.size + 1 + 1, 0, none⟩) := by rw [← h6, Array.getD_eq_getD_getElem?]
            have h5 : a.tmps[4]?.getD undef = .int .i64 0 := by rw [← h4, Array.getD_eq_getD_getElem?]
            simp [results, Tryz.results36, go_sem, hze3, hc.1, h5, h7]
          refine wp_region_held_drew (S := fun w' => w'.cell? ⟨w.heap.size, 0, none⟩ = some (.bool n1) ∧ w'.cell? ⟨w.heap.size, 1, none⟩ = some (.slice A1 l1.length c1) ∧ w'.cell? ⟨w.heap.size, 2, none⟩ = some (.bool n2) ∧ w'.cell? ⟨w.heap.size, 3, none⟩ = some (.slice A2 l2.length c2) ∧ w'.cell? ⟨w.heap.size + 1, 0, none⟩ = some (.bool n3) ∧ w'.cell? ⟨w.heap.size + 1, 1, none⟩ = some (.slice A3 l3.length c3) ∧ w'.cell? ⟨w.heap.size + 1, 2, none⟩ = some (.bool n4) ∧ w'.cell? ⟨w.heap.size + 1, 3, none⟩ = some (.slice A4 l4.length c4)) (by kernel_rfl) J0.out (fun hHeld => ?_)
          refine wpAnyH_take (i := 0) (v := .agg #[.bool n1, .slice A1 l1.length c1, .bool n2, .slice A2 l2.length c2]) rfl (by kernel_rfl) (by kernel_rfl) (by kernel_rfl) (fun _ _ _ h => pq_put (by decide) (by decide) h) (Or.inl ⟨by rfl, by intro w hSw; (try dsimp only at hSw); go_simp⟩) hHeld ?_
          (try simp only [Act.put])
          refine wpAnyH_take (i := 1) (v := .agg #[.bool n3, .slice A3 l3.length c3, .bool n4, .slice A4 l4.length c4]) rfl (by kernel_rfl) (by kernel_rfl) (by kernel_rfl) (fun _ _ _ h => pq_put (by decide) (by decide) h) (Or.inl ⟨by rfl, by intro w hSw; (try dsimp only at hSw); go_simp⟩) hHeld ?_
          (try simp only [Act.put])
          refine wpAnyH_take (i := 3) (v := .agg #[.bool n3, .slice A3 l3.length c3, .bool n4, .slice A4 l4.length c4]) rfl (by kernel_rfl) (by kernel_rfl) (by kernel_rfl) (fun _ _ _ h => pq_put (by decide) (by decide) h) (Or.inl ⟨by rfl, by intro w hSw; (try dsimp only at hSw); go_simp⟩) hHeld ?_
          (try simp only [Act.put])
          refine wpAnyH_take (i := 4) (v := .agg #[.bool n1, .slice A1 l1.length c1, .bool n2, .slice A2 l2.length c2]) rfl (by kernel_rfl) (by kernel_rfl) (by kernel_rfl) (fun _ _ _ h => pq_put (by decide) (by decide) h) (Or.inl ⟨by rfl, by intro w hSw; (try dsimp only at hSw); go_simp⟩) hHeld ?_
          (try simp only [Act.put])
          refine wpAnyH_ready (rs := [2]) (by kernel_rfl) (by simp) ?_
          refine AllReadyH.cons rfl (fun K hK => ?_) AllReadyH.nil
          go_simp
          refine (H0.out _ S1X.out S2X.out S3X.out S4X.out).mono ?_
          rintro e v1 ⟨A5, c5, rfl, hs5, hb⟩
          (try dsimp only at hs5)
          (try dsimp only)
          have Kav1 : Hid (Cf v1 w.heap.size n1 A1 l1.length c1 n2 A2 l2.length c2) := Cf.keep KaX.out hb
          have Kbv1 : Hid (Cf v1 (w.heap.size + 1) n3 A3 l3.length c3 n4 A4 l4.length c4) := Cf.keep KbX.out hb
          have Kev1 : Hid (C1 v1 (w.heap.size + 1 + 1) (.int .i64 0)) := C1.keep KeX.out hb
          have Bv1 := Lib.hid (below_mono BX.out hb)
          have S1v1 := Lib.hid (S1X.out.below hb)
          have S2v1 := Lib.hid (S2X.out.below hb)
          have S3v1 := Lib.hid (S3X.out.below hb)
          have S4v1 := Lib.hid (S4X.out.below hb)
          have J1 : Hid (v1.cell? ⟨w.heap.size, 0, none⟩ = some (.bool n1) ∧ v1.cell? ⟨w.heap.size, 1, none⟩ = some (.slice A1 l1.length c1) ∧ v1.cell? ⟨w.heap.size, 2, none⟩ = some (.bool n2) ∧ v1.cell? ⟨w.heap.size, 3, none⟩ = some (.slice A2 l2.length c2) ∧ v1.cell? ⟨w.heap.size + 1, 0, none⟩ = some (.bool n3) ∧ v1.cell? ⟨w.heap.size + 1, 1, none⟩ = some (.slice A3 l3.length c3) ∧ v1.cell? ⟨w.heap.size + 1, 2, none⟩ = some (.bool n4) ∧ v1.cell? ⟨w.heap.size + 1, 3, none⟩ = some (.slice A4 l4.length c4)) := ⟨Kav1.out.1, Kav1.out.2.1, Kav1.out.2.2.1, Kav1.out.2.2.2, Kbv1.out.1, Kbv1.out.2.1, Kbv1.out.2.2.1, Kbv1.out.2.2.2⟩
          clear hb hs5
          (try go_wp2_with fail)
          refine hK.out _ _ J1.out (fun hHeld2 => ?_)
          clear hK K
          (try simp only [Act.put])
          refine wpAnyH_ready (rs := [5]) (by kernel_rfl) (by simp) ?_
          refine AllReadyH.cons rfl (fun K hK => ?_) AllReadyH.nil
          go_simp
          refine (H1.out _ S1v1.out S2v1.out S3v1.out S4v1.out).mono ?_
          rintro e v2 ⟨rfl, hb⟩
          exact ⟨_, rfl, rfl, rfl, rfl, rfl, Kev1.out.keep hb, below_mono Bv1.out hb⟩
        | true =>
          rw [if_pos (by simp)]
          obtain ⟨n6, l6, r6⟩ : ∃ n l, wOf (x2 * y1) = (n, l) := ⟨_, _, rfl⟩
          have v6 := vz_mk r6.symm (fitB_iff.1 f1)
          have H1 : Hid (∀ W, Sl W A1 l1 c1 → Sl W A2 l2 c2 → Sl W A3 l3 c3 → Sl W A4 l4 c4 → Calls Tryz.prog 87 #[.agg #[.bool n3, .slice A3 l3.length c3, .bool n4, .slice A4 l4.length c4], .agg #[.bool n1, .slice A1 l1.length c1, .bool n2, .slice A2 l2.length c2]] W (WRes1 (n6, l6) W)) := fun W a b c d => by rw [← r6]; exact cross_ok n3 n4 n1 n2 A3 A4 A1 A2 l3 l4 l1 l2 c3 c4 c1 c2 x2 y1 h3 h2 (fitB_iff.1 f1) W c d a b
          obtain ⟨k, hk⟩ : ∃ k, k = cmpZ (x1 * y2) (x2 * y1) := ⟨_, rfl⟩
          have e7 : Hid (cmpS n5 l5 n6 l6 = (k, 0)) := by rw [Hid, cmpS_z v5 v6, hk]
          rw [← hk]
          clear hs1 hs2 hs3 hs4 hb1 hb2 h1 h2 h3 h4 f0 f1 v5 r5 v6 r6 hk
          go_enter_defers Tryz.func36, Tryz.ntmps36
          go_wp2_with fail
          refine (fcheck_any n1 n2 A1 A2 l1 l2 c1 c2 _ (((S1.out.alloc _).alloc _).alloc _) (((S2.out.alloc _).alloc _).alloc _)).mono ?_
          rw [e1.out]
          rintro e w1 ⟨rfl, hb⟩
          replace S1 : Hid (Sl w1 A1 l1 c1) := Sl.below (((S1.out.alloc _).alloc _).alloc _) hb
          replace S2 : Hid (Sl w1 A2 l2 c2) := Sl.below (((S2.out.alloc _).alloc _).alloc _) hb
          replace S3 : Hid (Sl w1 A3 l3 c3) := Sl.below (((S3.out.alloc _).alloc _).alloc _) hb
          replace S4 : Hid (Sl w1 A4 l4 c4) := Sl.below (((S4.out.alloc _).alloc _).alloc _) hb
          have Ka : Hid (Cf w1 w.heap.size n1 A1 l1.length c1 n2 A2 l2.length c2) := Cf.keep (Cf.keep (Cf.keep (Cf.fresh (by simp) _ _ _ _ _ _ _ _ _) (blw1 _ _)) (blw1 _ _)) hb
          have Kb : Hid (Cf w1 (w.heap.size + 1) n3 A3 l3.length c3 n4 A4 l4.length c4) := Cf.keep (Cf.keep (Cf.fresh (by simp) _ _ _ _ _ _ _ _ _) (blw1 _ _)) hb
          have Ke : Hid (C1 w1 (w.heap.size + 1 + 1) (.int .i64 0)) := C1.keep (C1.fresh (by simp) _ _) hb
          replace B : Hid (Below w.heap.size w w1) := below_mono (below_mono (below_mono (below_mono B.out (blw1 _ _)) (blw1 _ _)) (blw1 _ _)) hb
          clear hb
          obtain ⟨qa0, qa1, qa2, qa3⟩ := Ka.out
          obtain ⟨qb0, qb1, qb2, qb3⟩ := Kb.out
          have hza : w.heap.size < w1.heap.size := lt_of_cell (a := ⟨w.heap.size, 0, none⟩) Ka.out.1
          have hzb : w.heap.size + 1 < w1.heap.size := lt_of_cell (a := ⟨w.heap.size + 1, 0, none⟩) Kb.out.1
          have hze : w.heap.size + 1 + 1 < w1.heap.size := lt_of_cell (a := ⟨w.heap.size + 1 + 1, 0, none⟩) Ke.out.1
          go_wp2_with fail
          refine (want_ok _).mono ?_
          rintro e w2 ⟨rfl, hb⟩
          clear qa0 qa1 qa2 qa3 qb0 qb1 qb2 qb3
          replace S1 : Hid (Sl w2 A1 l1 c1) := Sl.below S1.out hb
          replace S2 : Hid (Sl w2 A2 l2 c2) := Sl.below S2.out hb
          replace S3 : Hid (Sl w2 A3 l3 c3) := Sl.below S3.out hb
          replace S4 : Hid (Sl w2 A4 l4 c4) := Sl.below S4.out hb
          replace Ka : Hid (Cf w2 w.heap.size n1 A1 l1.length c1 n2 A2 l2.length c2) := Cf.keep Ka.out hb
          replace Kb : Hid (Cf w2 (w.heap.size + 1) n3 A3 l3.length c3 n4 A4 l4.length c4) := Cf.keep Kb.out hb
          replace Ke : Hid (C1 w2 (w.heap.size + 1 + 1) (.int .i64 0)) := C1.keep Ke.out hb
          replace B : Hid (Below w.heap.size w w2) := below_mono B.out hb
          clear hb
          obtain ⟨qa0, qa1, qa2, qa3⟩ := Ka.out
          obtain ⟨qb0, qb1, qb2, qb3⟩ := Kb.out
          replace hza : w.heap.size < w2.heap.size := lt_of_cell (a := ⟨w.heap.size, 0, none⟩) Ka.out.1
          replace hzb : w.heap.size + 1 < w2.heap.size := lt_of_cell (a := ⟨w.heap.size + 1, 0, none⟩) Kb.out.1
          replace hze : w.heap.size + 1 + 1 < w2.heap.size := lt_of_cell (a := ⟨w.heap.size + 1 + 1, 0, none⟩) Ke.out.1
          go_wp2_with fail
          refine (fcheck_any n3 n4 A3 A4 l3 l4 c3 c4 _ S3.out S4.out).mono ?_
          rw [e2.out]
          rintro e w3 ⟨rfl, hb⟩
          clear qa0 qa1 qa2 qa3 qb0 qb1 qb2 qb3
          replace S1 : Hid (Sl w3 A1 l1 c1) := Sl.below S1.out hb
          replace S2 : Hid (Sl w3 A2 l2 c2) := Sl.below S2.out hb
          replace S3 : Hid (Sl w3 A3 l3 c3) := Sl.below S3.out hb
          replace S4 : Hid (Sl w3 A4 l4 c4) := Sl.below S4.out hb
          replace Ka : Hid (Cf w3 w.heap.size n1 A1 l1.length c1 n2 A2 l2.length c2) := Cf.keep Ka.out hb
          replace Kb : Hid (Cf w3 (w.heap.size + 1) n3 A3 l3.length c3 n4 A4 l4.length c4) := Cf.keep Kb.out hb
          replace Ke : Hid (C1 w3 (w.heap.size + 1 + 1) (.int .i64 0)) := C1.keep Ke.out hb
          replace B : Hid (Below w.heap.size w w3) := below_mono B.out hb
          clear hb
          obtain ⟨qa0, qa1, qa2, qa3⟩ := Ka.out
          obtain ⟨qb0, qb1, qb2, qb3⟩ := Kb.out
          replace hza : w.heap.size < w3.heap.size := lt_of_cell (a := ⟨w.heap.size, 0, none⟩) Ka.out.1
          replace hzb : w.heap.size + 1 < w3.heap.size := lt_of_cell (a := ⟨w.heap.size + 1, 0, none⟩) Kb.out.1
          replace hze : w.heap.size + 1 + 1 < w3.heap.size := lt_of_cell (a := ⟨w.heap.size + 1 + 1, 0, none⟩) Ke.out.1
          go_wp2_with fail
          refine (want_ok _).mono ?_
          rintro e w4 ⟨rfl, hb⟩
          clear qa0 qa1 qa2 qa3 qb0 qb1 qb2 qb3
          replace S1 : Hid (Sl w4 A1 l1 c1) := Sl.below S1.out hb
          replace S2 : Hid (Sl w4 A2 l2 c2) := Sl.below S2.out hb
          replace S3 : Hid (Sl w4 A3 l3 c3) := Sl.below S3.out hb
          replace S4 : Hid (Sl w4 A4 l4 c4) := Sl.below S4.out hb
          replace Ka : Hid (Cf w4 w.heap.size n1 A1 l1.length c1 n2 A2 l2.length c2) := Cf.keep Ka.out hb
          replace Kb : Hid (Cf w4 (w.heap.size + 1) n3 A3 l3.length c3 n4 A4 l4.length c4) := Cf.keep Kb.out hb
          replace Ke : Hid (C1 w4 (w.heap.size + 1 + 1) (.int .i64 0)) := C1.keep Ke.out hb
          replace B : Hid (Below w.heap.size w w4) := below_mono B.out hb
          clear hb
          obtain ⟨qa0, qa1, qa2, qa3⟩ := Ka.out
          obtain ⟨qb0, qb1, qb2, qb3⟩ := Kb.out
          replace hza : w.heap.size < w4.heap.size := lt_of_cell (a := ⟨w.heap.size, 0, none⟩) Ka.out.1
          replace hzb : w.heap.size + 1 < w4.heap.size := lt_of_cell (a := ⟨w.heap.size + 1, 0, none⟩) Kb.out.1
          replace hze : w.heap.size + 1 + 1 < w4.heap.size := lt_of_cell (a := ⟨w.heap.size + 1 + 1, 0, none⟩) Ke.out.1
          go_wp2_with fail
          clear qa0 qa1 qa2 qa3 qb0 qb1 qb2 qb3
          have KaX : Hid (Cf w4.drew w.heap.size n1 A1 l1.length c1 n2 A2 l2.length c2) := Cf.drew Ka.out
          have KbX : Hid (Cf w4.drew (w.heap.size + 1) n3 A3 l3.length c3 n4 A4 l4.length c4) := Cf.drew Kb.out
          have KeX : Hid (C1 w4.drew (w.heap.size + 1 + 1) (.int .i64 0)) := Ke.out
          have S1X : Hid (Sl w4.drew A1 l1 c1) := Sl.drew S1.out
          have S2X : Hid (Sl w4.drew A2 l2 c2) := Sl.drew S2.out
          have S3X : Hid (Sl w4.drew A3 l3 c3) := Sl.drew S3.out
          have S4X : Hid (Sl w4.drew A4 l4 c4) := Sl.drew S4.out
          have BX : Hid (Below w.heap.size w w4.drew) := Below.drew B.out
          clear S1 S2 S3 S4 B Ka Kb Ke hza hzb hze
          have J0 : Hid (w4.drew.cell? ⟨w.heap.size, 0, none⟩ = some (.bool n1) ∧ w4.drew.cell? ⟨w.heap.size, 1, none⟩ = some (.slice A1 l1.length c1) ∧ w4.drew.cell? ⟨w.heap.size, 2, none⟩ = some (.bool n2) ∧ w4.drew.cell? ⟨w.heap.size, 3, none⟩ = some (.slice A2 l2.length c2) ∧ w4.drew.cell? ⟨w.heap.size + 1, 0, none⟩ = some (.bool n3) ∧ w4.drew.cell? ⟨w.heap.size + 1, 1, none⟩ = some (.slice A3 l3.length c3) ∧ w4.drew.cell? ⟨w.heap.size + 1, 2, none⟩ = some (.bool n4) ∧ w4.drew.cell? ⟨w.heap.size + 1, 3, none⟩ = some (.slice A4 l4.length c4)) := ⟨KaX.out.1, KaX.out.2.1, KaX.out.2.2.1, KaX.out.2.2.2, KbX.out.1, KbX.out.2.1, KbX.out.2.2.1, KbX.out.2.2.2⟩
          go_region_held3 (fun w' => w'.cell? ⟨w.heap.size, 0, none⟩ = some (.bool n1) ∧ w'.cell? ⟨w.heap.size, 1, none⟩ = some (.slice A1 l1.length c1) ∧ w'.cell? ⟨w.heap.size, 2, none⟩ = some (.bool n2) ∧ w'.cell? ⟨w.heap.size, 3, none⟩ = some (.slice A2 l2.length c2) ∧ w'.cell? ⟨w.heap.size + 1, 0, none⟩ = some (.bool n3) ∧ w'.cell? ⟨w.heap.size + 1, 1, none⟩ = some (.slice A3 l3.length c3) ∧ w'.cell? ⟨w.heap.size + 1, 2, none⟩ = some (.bool n4) ∧ w'.cell? ⟨w.heap.size + 1, 3, none⟩ = some (.slice A4 l4.length c4))
            (first | with_reducible exact J3.out | with_reducible exact far8 (by omega) (by omega) _ J3.out | with_reducible exact J2.out | with_reducible exact J1.out | with_reducible exact J0.out)
            (first
              | (go_at_call 87; (with_reducible refine (H0.out _ S1X.out S2X.out S3X.out S4X.out).mono ?_); rintro e v1 ⟨A5, c5, rfl, hs5, hb⟩; (try dsimp only at hs5); (try dsimp only); have S5v1 : Hid (Sl v1 A5 l5 c5) := hs5; have Kav1 : Hid (Cf v1 w.heap.size n1 A1 l1.length c1 n2 A2 l2.length c2) := Cf.keep KaX.out hb; have Kbv1 : Hid (Cf v1 (w.heap.size + 1) n3 A3 l3.length c3 n4 A4 l4.length c4) := Cf.keep KbX.out hb; have Kev1 : Hid (C1 v1 (w.heap.size + 1 + 1) (.int .i64 0)) := C1.keep KeX.out hb; have Bv1 := Lib.hid (below_mono BX.out hb); have S1v1 := Lib.hid (S1X.out.below hb); have S2v1 := Lib.hid (S2X.out.below hb); have S3v1 := Lib.hid (S3X.out.below hb); have S4v1 := Lib.hid (S4X.out.below hb); have J1 : Hid (v1.cell? ⟨w.heap.size, 0, none⟩ = some (.bool n1) ∧ v1.cell? ⟨w.heap.size, 1, none⟩ = some (.slice A1 l1.length c1) ∧ v1.cell? ⟨w.heap.size, 2, none⟩ = some (.bool n2) ∧ v1.cell? ⟨w.heap.size, 3, none⟩ = some (.slice A2 l2.length c2) ∧ v1.cell? ⟨w.heap.size + 1, 0, none⟩ = some (.bool n3) ∧ v1.cell? ⟨w.heap.size + 1, 1, none⟩ = some (.slice A3 l3.length c3) ∧ v1.cell? ⟨w.heap.size + 1, 2, none⟩ = some (.bool n4) ∧ v1.cell? ⟨w.heap.size + 1, 3, none⟩ = some (.slice A4 l4.length c4)) := ⟨Kav1.out.1, Kav1.out.2.1, Kav1.out.2.2.1, Kav1.out.2.2.2, Kbv1.out.1, Kbv1.out.2.1, Kbv1.out.2.2.1, Kbv1.out.2.2.2⟩; clear hb hs5)
              | (go_at_call 87; (with_reducible refine (H1.out _ S1v1.out S2v1.out S3v1.out S4v1.out).mono ?_); rintro e v2 ⟨A6, c6, rfl, hs6, hb⟩; (try dsimp only at hs6); (try dsimp only); have S6v2 : Hid (Sl v2 A6 l6 c6) := hs6; have Kav2 : Hid (Cf v2 w.heap.size n1 A1 l1.length c1 n2 A2 l2.length c2) := Cf.keep Kav1.out hb; have Kbv2 : Hid (Cf v2 (w.heap.size + 1) n3 A3 l3.length c3 n4 A4 l4.length c4) := Cf.keep Kbv1.out hb; have Kev2 : Hid (C1 v2 (w.heap.size + 1 + 1) (.int .i64 0)) := C1.keep Kev1.out hb; have Bv2 := Lib.hid (below_mono Bv1.out hb); have S5v2 := Lib.hid (S5v1.out.below hb); have J2 : Hid (v2.cell? ⟨w.heap.size, 0, none⟩ = some (.bool n1) ∧ v2.cell? ⟨w.heap.size, 1, none⟩ = some (.slice A1 l1.length c1) ∧ v2.cell? ⟨w.heap.size, 2, none⟩ = some (.bool n2) ∧ v2.cell? ⟨w.heap.size, 3, none⟩ = some (.slice A2 l2.length c2) ∧ v2.cell? ⟨w.heap.size + 1, 0, none⟩ = some (.bool n3) ∧ v2.cell? ⟨w.heap.size + 1, 1, none⟩ = some (.slice A3 l3.length c3) ∧ v2.cell? ⟨w.heap.size + 1, 2, none⟩ = some (.bool n4) ∧ v2.cell? ⟨w.heap.size + 1, 3, none⟩ = some (.slice A4 l4.length c4)) := ⟨Kav2.out.1, Kav2.out.2.1, Kav2.out.2.2.1, Kav2.out.2.2.2, Kbv2.out.1, Kbv2.out.2.1, Kbv2.out.2.2.1, Kbv2.out.2.2.2⟩; clear hb hs6)
              | (go_at_call 77; (with_reducible refine (cmp_any n5 n6 _ _ l5 l6 _ _ _ S5v2.out S6v2.out).mono ?_); rw [e7.out]; rintro e v3 ⟨rfl, hb⟩; have Kav3 : Hid (Cf v3 w.heap.size n1 A1 l1.length c1 n2 A2 l2.length c2) := Cf.keep Kav2.out hb; have Kbv3 : Hid (Cf v3 (w.heap.size + 1) n3 A3 l3.length c3 n4 A4 l4.length c4) := Cf.keep Kbv2.out hb; have Kev3 : Hid (C1 v3 (w.heap.size + 1 + 1) (.int .i64 0)) := C1.keep Kev2.out hb; have Bv3 := Lib.hid (below_mono Bv2.out hb); have J3 : Hid (v3.cell? ⟨w.heap.size, 0, none⟩ = some (.bool n1) ∧ v3.cell? ⟨w.heap.size, 1, none⟩ = some (.slice A1 l1.length c1) ∧ v3.cell? ⟨w.heap.size, 2, none⟩ = some (.bool n2) ∧ v3.cell? ⟨w.heap.size, 3, none⟩ = some (.slice A2 l2.length c2) ∧ v3.cell? ⟨w.heap.size + 1, 0, none⟩ = some (.bool n3) ∧ v3.cell? ⟨w.heap.size + 1, 1, none⟩ = some (.slice A3 l3.length c3) ∧ v3.cell? ⟨w.heap.size + 1, 2, none⟩ = some (.bool n4) ∧ v3.cell? ⟨w.heap.size + 1, 3, none⟩ = some (.slice A4 l4.length c4)) := ⟨Kav3.out.1, Kav3.out.2.1, Kav3.out.2.2.1, Kav3.out.2.2.2, Kbv3.out.1, Kbv3.out.2.1, Kbv3.out.2.2.1, Kbv3.out.2.2.2⟩; obtain ⟨u0, u1⟩ := Kev3.out; clear hb))
          go_wp2_with fail
          refine leaves_cons (f := 46) (args := #[.pointer (some ⟨w.heap.size + 1 + 1, 0, none⟩)]) (by simp) (by simp [go_sem]) ?_
          refine (catch_idle ⟨w.heap.size + 1 + 1, 0, none⟩ _).mono ?_
          rintro e u' w'' ⟨rfl, rfl, rfl⟩
          simp [Leaves, settle, results, Tryz.results36, go_sem, u0]
          exact ⟨rfl, Bv3.out.setCell (p := ⟨w.heap.size + 1 + 1, 0, none⟩) (by simp <;> omega) _⟩

end Go.Proofs.YtmelbahbjdogdaaGreatDoor
/- Memory: two fractions made at once and laid into boxes, in any order of the steps; the statement 'x, y := Twin(a), Twin(b)'. -/
namespace Go.Proofs.YtmelbahbjdogdaaGreatDoor
open Go.RowKit
attribute [local go_sem ↓] Go.wp_at_zero Go.wp_at_succ
/-- An operation of the region: what it writes, what it does, what it waits for. -/
def OpIsF (ops : Array Oper) (i : Nat) (d : Option Tmp) (op : Op) (waits : List Nat) : Prop :=
  ∃ o, ops[i]? = some o ∧ o.dst = d ∧ o.op = op ∧ o.guard = none ∧ ∀ k ∈ waits, ∃ e ∈ o.after, e.on = k ∧ Region.binds .any e = true

theorem OpIsF.take {ops : Array Oper} {i : Nat} {d : Option Tmp} {op : Op} {ws : List Nat} (h : OpIsF ops i d op ws) {l : Array Bool} (hr : i < ops.size ∧ l.getD i true = false ∧ ∀ o, ops[i]? = some o → ∀ e ∈ o.after, Region.binds .any e = true → l.getD e.on false = true) :
    l.getD i true = false ∧ (∀ k ∈ ws, l.getD k false = true) ∧ ∃ ty pos after, ops[i]? = some ⟨d, op, ty, pos, after, none⟩ := by
  obtain ⟨⟨dst, op', ty, pos, after, guard⟩, hi, rfl, rfl, hg, hw⟩ := h
  simp only at hg
  subst hg
  refine ⟨hr.2.1, fun k hk => ?_, ty, pos, after, hi⟩
  obtain ⟨e, he, rfl, hb⟩ := hw k hk
  exact hr.2.2 _ hi e he hb

/-- A fraction as it lies: signs, slices. -/
structure FV where
  n1 : Bool
  A1 : Option Addr
  m1 : Nat
  c1 : Nat
  n2 : Bool
  A2 : Option Addr
  m2 : Nat
  c2 : Nat

@[reducible] def FV.val (v : FV) : Value := .agg #[.bool v.n1, .slice v.A1 v.m1 v.c1, .bool v.n2, .slice v.A2 v.m2 v.c2]

def CF (W : World) (g : Nat) (v : FV) : Prop := Cf W g v.n1 v.A1 v.m1 v.c1 v.n2 v.A2 v.m2 v.c2

@[reducible] def zf : FV := ⟨false, none, 0, 0, false, none, 0, 0⟩

@[reducible] def putF (W : World) (g : Nat) (v : FV) : World := (((W.setCell ⟨g, 0, none⟩ (.bool v.n1)).setCell ⟨g, 1, none⟩ (.slice v.A1 v.m1 v.c1)).setCell ⟨g, 2, none⟩ (.bool v.n2)).setCell ⟨g, 3, none⟩ (.slice v.A2 v.m2 v.c2)

theorem CF.keep {W W' : World} {g : Nat} {v : FV} (h : CF W g v) (hb : Below W.heap.size W W') : CF W' g v := Cf.keep h hb

theorem CF.put {W : World} {g h : Nat} {v u : FV} (k : CF W h u) (hne : h ≠ g) : CF (putF W g v) h u :=
  far1 hne _ (far1 hne _ (far1 hne _ (far1 hne _ k)))

theorem CF.new {W : World} {g : Nat} {v u : FV} (k : CF W g u) : CF (putF W g v) g v := by
  obtain ⟨h0, h1, h2, h3⟩ := k
  have ne : ∀ i j : Nat, i ≠ j → (⟨g, i, none⟩ : Addr) ≠ ⟨g, j, none⟩ := fun i j hij e => hij (by injection e)
  refine ⟨?_, ?_, ?_, ?_⟩
  · rw [World.cell?_setCell_other _ _ _ _ (ne 3 0 (by decide)), World.cell?_setCell_other _ _ _ _ (ne 2 0 (by decide)), World.cell?_setCell_other _ _ _ _ (ne 1 0 (by decide)), World.cell?_setCell_same _ _ _ h0]
  · rw [World.cell?_setCell_other _ _ _ _ (ne 3 1 (by decide)), World.cell?_setCell_other _ _ _ _ (ne 2 1 (by decide)), World.cell?_setCell_same _ _ _ ((World.cell?_setCell_other _ _ _ _ (ne 0 1 (by decide))).trans h1)]
  · rw [World.cell?_setCell_other _ _ _ _ (ne 3 2 (by decide)), World.cell?_setCell_same _ _ _ ((World.cell?_setCell_other _ _ _ _ (ne 1 2 (by decide))).trans ((World.cell?_setCell_other _ _ _ _ (ne 0 2 (by decide))).trans h2))]
  · exact World.cell?_setCell_same _ _ _ ((World.cell?_setCell_other _ _ _ _ (ne 2 3 (by decide))).trans ((World.cell?_setCell_other _ _ _ _ (ne 1 3 (by decide))).trans ((World.cell?_setCell_other _ _ _ _ (ne 0 3 (by decide))).trans h3)))

structure PF (w : World) (ga gb : Nat) (va vb : FV) (Ta Tb : World → FV → Prop) (d0 d1 d2 d3 d4 d5 d6 d7 : Bool) (u1 u2 u3 u4 u5 u6 : Value) (W : World) (o5 o6 : Option (Nat × FV)) (x1 x2 : Option FV) : Prop where
  b : Below w.heap.size w W
  ka : CF W ga va
  kb : CF W gb vb
  k5 : ∀ g v, o5 = some (g, v) → CF W g v ∧ Ff W g
  k6 : ∀ g v, o6 = some (g, v) → CF W g v ∧ Ff W g
  s1 : ∀ v, x1 = some v → Ta W v
  s2 : ∀ v, x2 = some v → Tb W v
  p0 : d0 = true → u1 = va.val
  p2 : d2 = true → u3 = vb.val
  p1 : d1 = false → x1 = none
  q1 : d1 = true → ∃ v, x1 = some v ∧ u2 = v.val
  p3 : d3 = false → x2 = none
  q3 : d3 = true → ∃ v, x2 = some v ∧ u4 = v.val
  p4 : d4 = false → o5 = none
  q4 : d4 = true → ∃ g v, u5 = .pointer (some ⟨g, 0, none⟩) ∧ o5 = some (g, v) ∧ gb < g ∧ (d6 = false → v = zf) ∧ (d6 = true → x1 = some v)
  p5 : d5 = false → o6 = none
  q5 : d5 = true → ∃ g v, u6 = .pointer (some ⟨g, 0, none⟩) ∧ o6 = some (g, v) ∧ gb < g ∧ (d7 = false → v = zf) ∧ (d7 = true → x2 = some v)
  n6 : d6 = true → d1 = true
  n7 : d7 = true → d3 = true
  m6 : d6 = true → d4 = true
  m7 : d7 = true → d5 = true
  pd : ∀ g v g' v', o5 = some (g, v) → o6 = some (g', v') → g' ≠ g

section
variable {w W W' : World} {ga gb : Nat} {va vb : FV} {Ta Tb : World → FV → Prop} {d0 d1 d2 d3 d4 d5 d6 d7 : Bool} {u1 u2 u3 u4 u5 u6 : Value} {o5 o6 : Option (Nat × FV)} {x1 x2 : Option FV}
theorem PF.done (h : PF w ga gb va vb Ta Tb d0 d1 d2 d3 true true true true u1 u2 u3 u4 u5 u6 W o5 o6 x1 x2) :
    ∃ g5 g6 v5 v6, u5 = .pointer (some ⟨g5, 0, none⟩) ∧ u6 = .pointer (some ⟨g6, 0, none⟩) ∧ gb < g5 ∧ gb < g6 ∧ CF W g5 v5 ∧ CF W g6 v6 ∧ Ta W v5 ∧ Tb W v6 := by
  obtain ⟨g5, v5, rfl, rfl, h5, _, k5⟩ := h.q4 rfl
  obtain ⟨g6, v6, rfl, rfl, h6, _, k6⟩ := h.q5 rfl
  exact ⟨g5, g6, v5, v6, rfl, rfl, h5, h6, (h.k5 _ _ rfl).1, (h.k6 _ _ rfl).1, h.s1 _ (k5 rfl), h.s2 _ (k6 rfl)⟩

end
section
variable {K : Act → World → Prop} {Q : Exit → Act → World → Prop} {a : Act} {W : World} {d : Option Tmp} {ty : TypeId} {pos : String} {after : Array Edge} {s s' g : Nat} {v : FV}
end
end Go.Proofs.YtmelbahbjdogdaaGreatDoor

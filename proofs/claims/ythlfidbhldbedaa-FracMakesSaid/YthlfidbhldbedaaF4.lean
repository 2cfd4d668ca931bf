/- Walks: frac.Make, Of; the reference's Check, Make, Of. -/
import Derived.Test.YthlfidbhldbedaaF3
import Derived.Test.YthlfidbhldbedaaW9
import Derived.Deep.RegionWith
import Derived.BigQuiet
import Derived.Deep.QuietTactic
namespace Go.Proofs.Ythlfidbhldbedaa
open Go.RowKit
attribute [local go_sem ↓] Go.wp_at_zero Go.wp_at_succ
theorem fres_fall {w w2 : World} {g : Nat} (k : Int) (hb : Below w.heap.size w w2) (hg : w.heap.size ≤ g) (v : Value) (o : Obj) :
    FRes (zF, k) w (.returned (.tuple #[.agg #[.bool false, .slice none 0 0, .bool false, .slice none 0 0], .int .i64 k])) ((w2.setCell ⟨g, 0, none⟩ v).alloc o) :=
  ⟨none, 0, none, 0, rfl, Sl.nil _ _ _, Sl.nil _ _ _, below_mono (hb.setCell (p := ⟨g, 0, none⟩) hg v) (blw1 _ _)⟩

theorem fres_store {r : (Bool × List Nat) × (Bool × List Nat)} {w w3 : World} {g ge c c' : Nat} {A A' : Option Addr} {n1 n2 : Bool} {A1 A2 : Option Addr} {m1 c1 m2 c2 : Nat} {z : Int} (k : Int) (hs : Sl w3 A r.1.2 c) (hs' : Sl w3 A' r.2.2 c') (q : Cf w3 g n1 A1 m1 c1 n2 A2 m2 c2) (qe : C1 w3 ge (.int .i64 z)) (hne : ge ≠ g) (hb : Below w.heap.size w w3) (hg : w.heap.size ≤ g) (hge : w.heap.size ≤ ge) (x y t u v : Value) :
    FRes (r, k) w (.returned (.tuple #[.agg #[.bool r.1.1, .slice A r.1.2.length c, .bool r.2.1, .slice A' r.2.2.length c'], .int .i64 k])) (((((w3.setCell ⟨g, 0, none⟩ x).setCell ⟨g, 1, none⟩ y).setCell ⟨g, 2, none⟩ t).setCell ⟨g, 3, none⟩ u).setCell ⟨ge, 0, none⟩ v) := by
  have h : ((((w3.setCell ⟨g, 0, none⟩ x).setCell ⟨g, 1, none⟩ y).setCell ⟨g, 2, none⟩ t).setCell ⟨g, 3, none⟩ u).cell? ⟨ge, 0, none⟩ = some (.int .i64 z) := by
    have ho : ∀ i, (⟨g, i, none⟩ : Addr) ≠ ⟨ge, 0, none⟩ := fun i e => hne (congrArg Addr.block e).symm
    rw [World.cell?_setCell_other _ _ _ _ (ho 3), World.cell?_setCell_other _ _ _ _ (ho 2), World.cell?_setCell_other _ _ _ _ (ho 1), World.cell?_setCell_other _ _ _ _ (ho 0)]
    exact qe.1
  exact ⟨A, c, A', c', rfl, (hs.setF q _ _ _ _).set1' h (by decide) _, (hs'.setF q _ _ _ _).set1' h (by decide) _, (below_setF hb hg _ _ _ _).setCell (p := ⟨ge, 0, none⟩) hge _⟩

set_option maxRecDepth 100000 in
set_option maxHeartbeats 2000000 in
theorem make_any (n1 n2 : Bool) (A1 A2 : Option Addr) (l1 l2 : List Nat) (c1 c2 : Nat) (w : World) (hs1 : Sl w A1 l1 c1) (hs2 : Sl w A2 l2 c2) :
    Calls Try.prog 8 #[.agg #[.bool n1, .slice A1 l1.length c1], .agg #[.bool n2, .slice A2 l2.length c2]] w (FRes (makeS n1 l1 n2 l2) w) := by
  have S1 := Lib.hid hs1
  have S2 := Lib.hid hs2
  have B : Hid (Below w.heap.size w w) := Below.refl _ _
  cases h1 : badL n1 l1 with
  | true =>
    have hr : makeS n1 l1 n2 l2 = (zF, 8) := by unfold makeS; rw [h1]; rfl
    have e1 : Hid (chk n1 l1 = 8) := chk_bad h1
    rw [hr]
    clear hs1 hs2 hr h1
    go_enter_defers Try.func8, Try.ntmps8
    go_wp2_with fail
    refine (wcheck_any _ _ _ _ _ ((((S1.out.alloc _).alloc _).alloc _).alloc _)).mono ?_
    rw [e1.out]
    rintro e w1 ⟨rfl, hb⟩
    have Ka' : Hid (Cw w1 w.heap.size n1 A1 l1.length c1) := Cw.keep (Cw.keep (Cw.keep (Cw.keep (Cw.fresh (by simp) _ _ _ _ _) (blw1 _ _)) (blw1 _ _)) (blw1 _ _)) hb
    have Kb' : Hid (Cw w1 (w.heap.size + 1) n2 A2 l2.length c2) := Cw.keep (Cw.keep (Cw.keep (Cw.fresh (by simp) _ _ _ _ _) (blw1 _ _)) (blw1 _ _)) hb
    have Fo' : Hid (Ff w1 (w.heap.size + 1 + 1)) := Ff.keep (Ff.keep (Ff.fresh (by simp) _ _) (Cf.fresh (by simp) _ _ _ _ _ _ _ _ _) (blw1 _ _)) (Cf.keep (Cf.fresh (by simp) _ _ _ _ _ _ _ _ _) (blw1 _ _)) hb
    have Ko' : Hid (Cf w1 (w.heap.size + 1 + 1) false none 0 0 false none 0 0) := Cf.keep (Cf.keep (Cf.fresh (by simp) _ _ _ _ _ _ _ _ _) (blw1 _ _)) hb
    have Ke' : Hid (C1 w1 (w.heap.size + 1 + 1 + 1) (.int .i64 0)) := C1.keep (C1.fresh (by simp) _ _) hb
    have S1' : Hid (Sl w1 A1 l1 c1) := Sl.below ((((S1.out.alloc _).alloc _).alloc _).alloc _) hb
    have S2' : Hid (Sl w1 A2 l2 c2) := Sl.below ((((S2.out.alloc _).alloc _).alloc _).alloc _) hb
    have B' : Hid (Below w.heap.size w w1) := below_mono (below_mono (below_mono (below_mono (below_mono B.out (blw1 _ _)) (blw1 _ _)) (blw1 _ _)) (blw1 _ _)) hb
    clear hb S1 S2 B
    have Ka := Ka'
    have Kb := Kb'
    have Fo := Fo'
    have Ko := Ko'
    have Ke := Ke'
    have S1 := S1'
    have S2 := S2'
    have B := B'
    clear Ka' Kb' Fo' Ko' Ke' S1' S2' B'
    obtain ⟨qa0, qa1⟩ := Ka.out
    obtain ⟨qb0, qb1⟩ := Kb.out
    have hza : w.heap.size < w1.heap.size := lt_of_cell (a := ⟨w.heap.size, 0, none⟩) Ka.out.1
    have hzb : w.heap.size + 1 < w1.heap.size := lt_of_cell (a := ⟨w.heap.size + 1, 0, none⟩) Kb.out.1
    have hzo : w.heap.size + 1 + 1 < w1.heap.size := lt_of_cell (a := ⟨w.heap.size + 1 + 1, 0, none⟩) Ko.out.1
    have hze : w.heap.size + 1 + 1 + 1 < w1.heap.size := lt_of_cell (a := ⟨w.heap.size + 1 + 1 + 1, 0, none⟩) Ke.out.1
    go_wp2_with fail
    refine (want_bad 8 (by decide) _).mono ?_
    rintro e w2 ⟨rfl, hb⟩
    clear qa0 qa1 qb0 qb1
    have Ka' : Hid (Cw w2 w.heap.size n1 A1 l1.length c1) := Cw.keep Ka.out hb
    have Kb' : Hid (Cw w2 (w.heap.size + 1) n2 A2 l2.length c2) := Cw.keep Kb.out hb
    have Fo' : Hid (Ff w2 (w.heap.size + 1 + 1)) := Ff.keep Fo.out Ko.out hb
    have Ko' : Hid (Cf w2 (w.heap.size + 1 + 1) false none 0 0 false none 0 0) := Cf.keep Ko.out hb
    have Ke' : Hid (C1 w2 (w.heap.size + 1 + 1 + 1) (.int .i64 0)) := C1.keep Ke.out hb
    have S1' : Hid (Sl w2 A1 l1 c1) := Sl.below S1.out hb
    have S2' : Hid (Sl w2 A2 l2 c2) := Sl.below S2.out hb
    have B' : Hid (Below w.heap.size w w2) := below_mono B.out hb
    clear hb Ka Kb Fo Ko Ke S1 S2 B
    have Ka := Ka'
    have Kb := Kb'
    have Fo := Fo'
    have Ko := Ko'
    have Ke := Ke'
    have S1 := S1'
    have S2 := S2'
    have B := B'
    clear Ka' Kb' Fo' Ko' Ke' S1' S2' B'
    go_wp2_with fail
    refine leaves_cons (f := 28) (args := #[.pointer (some ⟨w.heap.size + 1 + 1 + 1, 0, none⟩)]) (by simp) (by simp [go_sem]) ?_
    refine (catch_fall (w.heap.size + 1 + 1 + 1) 0 8 [] _ Ke.out).mono ?_
    rintro e u' w'' ⟨rfl, rfl, ob, rfl⟩
    obtain ⟨qo0, qo1, qo2, qo3⟩ := Ko.out
    obtain ⟨fo0, fo1, fo2, fo3⟩ := Fo.out
    have hze2 : w.heap.size + 1 + 1 < w2.heap.size := lt_of_cell (a := ⟨w.heap.size + 1 + 1, 0, none⟩) qo0
    have hze3 : w.heap.size + 1 + 1 + 1 < w2.heap.size := lt_of_cell (a := ⟨w.heap.size + 1 + 1 + 1, 0, none⟩) Ke.out.1
    simp [Leaves, settle, results, Try.results8, go_sem, qo0, qo1, qo2, qo3, hze2, hze3, Ke.out.1]
    exact fres_fall 8 B.out (by omega) _ _
  | false =>
    have e1 : Hid (chk n1 l1 = 0) := chk_good h1
    cases h2 : badL n2 l2 with
    | true =>
      have hr : makeS n1 l1 n2 l2 = (zF, 8) := by unfold makeS; rw [h1, h2]; rfl
      have e2 : Hid (chk n2 l2 = 8) := chk_bad h2
      rw [hr]
      clear hs1 hs2 hr h1 h2
      go_enter_defers Try.func8, Try.ntmps8
      go_wp2_with fail
      refine (wcheck_any _ _ _ _ _ ((((S1.out.alloc _).alloc _).alloc _).alloc _)).mono ?_
      rw [e1.out]
      rintro e w1 ⟨rfl, hb⟩
      have Ka' : Hid (Cw w1 w.heap.size n1 A1 l1.length c1) := Cw.keep (Cw.keep (Cw.keep (Cw.keep (Cw.fresh (by simp) _ _ _ _ _) (blw1 _ _)) (blw1 _ _)) (blw1 _ _)) hb
      have Kb' : Hid (Cw w1 (w.heap.size + 1) n2 A2 l2.length c2) := Cw.keep (Cw.keep (Cw.keep (Cw.fresh (by simp) _ _ _ _ _) (blw1 _ _)) (blw1 _ _)) hb
      have Fo' : Hid (Ff w1 (w.heap.size + 1 + 1)) := Ff.keep (Ff.keep (Ff.fresh (by simp) _ _) (Cf.fresh (by simp) _ _ _ _ _ _ _ _ _) (blw1 _ _)) (Cf.keep (Cf.fresh (by simp) _ _ _ _ _ _ _ _ _) (blw1 _ _)) hb
      have Ko' : Hid (Cf w1 (w.heap.size + 1 + 1) false none 0 0 false none 0 0) := Cf.keep (Cf.keep (Cf.fresh (by simp) _ _ _ _ _ _ _ _ _) (blw1 _ _)) hb
      have Ke' : Hid (C1 w1 (w.heap.size + 1 + 1 + 1) (.int .i64 0)) := C1.keep (C1.fresh (by simp) _ _) hb
      have S1' : Hid (Sl w1 A1 l1 c1) := Sl.below ((((S1.out.alloc _).alloc _).alloc _).alloc _) hb
      have S2' : Hid (Sl w1 A2 l2 c2) := Sl.below ((((S2.out.alloc _).alloc _).alloc _).alloc _) hb
      have B' : Hid (Below w.heap.size w w1) := below_mono (below_mono (below_mono (below_mono (below_mono B.out (blw1 _ _)) (blw1 _ _)) (blw1 _ _)) (blw1 _ _)) hb
      clear hb S1 S2 B
      have Ka := Ka'
      have Kb := Kb'
      have Fo := Fo'
      have Ko := Ko'
      have Ke := Ke'
      have S1 := S1'
      have S2 := S2'
      have B := B'
      clear Ka' Kb' Fo' Ko' Ke' S1' S2' B'
      obtain ⟨qa0, qa1⟩ := Ka.out
      obtain ⟨qb0, qb1⟩ := Kb.out
      have hza : w.heap.size < w1.heap.size := lt_of_cell (a := ⟨w.heap.size, 0, none⟩) Ka.out.1
      have hzb : w.heap.size + 1 < w1.heap.size := lt_of_cell (a := ⟨w.heap.size + 1, 0, none⟩) Kb.out.1
      have hzo : w.heap.size + 1 + 1 < w1.heap.size := lt_of_cell (a := ⟨w.heap.size + 1 + 1, 0, none⟩) Ko.out.1
      have hze : w.heap.size + 1 + 1 + 1 < w1.heap.size := lt_of_cell (a := ⟨w.heap.size + 1 + 1 + 1, 0, none⟩) Ke.out.1
      go_wp2_with fail
      refine (want_ok _).mono ?_
      rintro e w2 ⟨rfl, hb⟩
      clear qa0 qa1 qb0 qb1
      have Ka' : Hid (Cw w2 w.heap.size n1 A1 l1.length c1) := Cw.keep Ka.out hb
      have Kb' : Hid (Cw w2 (w.heap.size + 1) n2 A2 l2.length c2) := Cw.keep Kb.out hb
      have Fo' : Hid (Ff w2 (w.heap.size + 1 + 1)) := Ff.keep Fo.out Ko.out hb
      have Ko' : Hid (Cf w2 (w.heap.size + 1 + 1) false none 0 0 false none 0 0) := Cf.keep Ko.out hb
      have Ke' : Hid (C1 w2 (w.heap.size + 1 + 1 + 1) (.int .i64 0)) := C1.keep Ke.out hb
      have S1' : Hid (Sl w2 A1 l1 c1) := Sl.below S1.out hb
      have S2' : Hid (Sl w2 A2 l2 c2) := Sl.below S2.out hb
      have B' : Hid (Below w.heap.size w w2) := below_mono B.out hb
      clear hb Ka Kb Fo Ko Ke S1 S2 B
      have Ka := Ka'
      have Kb := Kb'
      have Fo := Fo'
      have Ko := Ko'
      have Ke := Ke'
      have S1 := S1'
      have S2 := S2'
      have B := B'
      clear Ka' Kb' Fo' Ko' Ke' S1' S2' B'
      obtain ⟨qa0, qa1⟩ := Ka.out
      obtain ⟨qb0, qb1⟩ := Kb.out
      replace hza : w.heap.size < w2.heap.size := lt_of_cell (a := ⟨w.heap.size, 0, none⟩) Ka.out.1
      replace hzb : w.heap.size + 1 < w2.heap.size := lt_of_cell (a := ⟨w.heap.size + 1, 0, none⟩) Kb.out.1
      replace hzo : w.heap.size + 1 + 1 < w2.heap.size := lt_of_cell (a := ⟨w.heap.size + 1 + 1, 0, none⟩) Ko.out.1
      replace hze : w.heap.size + 1 + 1 + 1 < w2.heap.size := lt_of_cell (a := ⟨w.heap.size + 1 + 1 + 1, 0, none⟩) Ke.out.1
      go_wp2_with fail
      refine (wcheck_any _ _ _ _ _ S2.out).mono ?_
      rw [e2.out]
      rintro e w3 ⟨rfl, hb⟩
      clear qa0 qa1 qb0 qb1
      have Ka' : Hid (Cw w3 w.heap.size n1 A1 l1.length c1) := Cw.keep Ka.out hb
      have Kb' : Hid (Cw w3 (w.heap.size + 1) n2 A2 l2.length c2) := Cw.keep Kb.out hb
      have Fo' : Hid (Ff w3 (w.heap.size + 1 + 1)) := Ff.keep Fo.out Ko.out hb
      have Ko' : Hid (Cf w3 (w.heap.size + 1 + 1) false none 0 0 false none 0 0) := Cf.keep Ko.out hb
      have Ke' : Hid (C1 w3 (w.heap.size + 1 + 1 + 1) (.int .i64 0)) := C1.keep Ke.out hb
      have S1' : Hid (Sl w3 A1 l1 c1) := Sl.below S1.out hb
      have S2' : Hid (Sl w3 A2 l2 c2) := Sl.below S2.out hb
      have B' : Hid (Below w.heap.size w w3) := below_mono B.out hb
      clear hb Ka Kb Fo Ko Ke S1 S2 B
      have Ka := Ka'
      have Kb := Kb'
      have Fo := Fo'
      have Ko := Ko'
      have Ke := Ke'
      have S1 := S1'
      have S2 := S2'
      have B := B'
      clear Ka' Kb' Fo' Ko' Ke' S1' S2' B'
      obtain ⟨qa0, qa1⟩ := Ka.out
      obtain ⟨qb0, qb1⟩ := Kb.out
      replace hza : w.heap.size < w3.heap.size := lt_of_cell (a := ⟨w.heap.size, 0, none⟩) Ka.out.1
      replace hzb : w.heap.size + 1 < w3.heap.size := lt_of_cell (a := ⟨w.heap.size + 1, 0, none⟩) Kb.out.1
      replace hzo : w.heap.size + 1 + 1 < w3.heap.size := lt_of_cell (a := ⟨w.heap.size + 1 + 1, 0, none⟩) Ko.out.1
      replace hze : w.heap.size + 1 + 1 + 1 < w3.heap.size := lt_of_cell (a := ⟨w.heap.size + 1 + 1 + 1, 0, none⟩) Ke.out.1
      go_wp2_with fail
      refine (want_bad 8 (by decide) _).mono ?_
      rintro e w4 ⟨rfl, hb⟩
      clear qa0 qa1 qb0 qb1
      have Ka' : Hid (Cw w4 w.heap.size n1 A1 l1.length c1) := Cw.keep Ka.out hb
      have Kb' : Hid (Cw w4 (w.heap.size + 1) n2 A2 l2.length c2) := Cw.keep Kb.out hb
      have Fo' : Hid (Ff w4 (w.heap.size + 1 + 1)) := Ff.keep Fo.out Ko.out hb
      have Ko' : Hid (Cf w4 (w.heap.size + 1 + 1) false none 0 0 false none 0 0) := Cf.keep Ko.out hb
      have Ke' : Hid (C1 w4 (w.heap.size + 1 + 1 + 1) (.int .i64 0)) := C1.keep Ke.out hb
      have S1' : Hid (Sl w4 A1 l1 c1) := Sl.below S1.out hb
      have S2' : Hid (Sl w4 A2 l2 c2) := Sl.below S2.out hb
      have B' : Hid (Below w.heap.size w w4) := below_mono B.out hb
      clear hb Ka Kb Fo Ko Ke S1 S2 B
      have Ka := Ka'
      have Kb := Kb'
      have Fo := Fo'
      have Ko := Ko'
      have Ke := Ke'
      have S1 := S1'
      have S2 := S2'
      have B := B'
      clear Ka' Kb' Fo' Ko' Ke' S1' S2' B'
      go_wp2_with fail
      refine leaves_cons (f := 28) (args := #[.pointer (some ⟨w.heap.size + 1 + 1 + 1, 0, none⟩)]) (by simp) (by simp [go_sem]) ?_
      refine (catch_fall (w.heap.size + 1 + 1 + 1) 0 8 [] _ Ke.out).mono ?_
      rintro e u' w'' ⟨rfl, rfl, ob, rfl⟩
      obtain ⟨qo0, qo1, qo2, qo3⟩ := Ko.out
      obtain ⟨fo0, fo1, fo2, fo3⟩ := Fo.out
      have hze2 : w.heap.size + 1 + 1 < w4.heap.size := lt_of_cell (a := ⟨w.heap.size + 1 + 1, 0, none⟩) qo0
      have hze3 : w.heap.size + 1 + 1 + 1 < w4.heap.size := lt_of_cell (a := ⟨w.heap.size + 1 + 1 + 1, 0, none⟩) Ke.out.1
      simp [Leaves, settle, results, Try.results8, go_sem, qo0, qo1, qo2, qo3, hze2, hze3, Ke.out.1]
      exact fres_fall 8 B.out (by omega) _ _
    | false =>
      have v1 := vz_of hs1.lim h1
      have v2 := vz_of hs2.lim h2
      have e2 : Hid (chk n2 l2 = 0) := chk_good h2
      by_cases hl : l2.length = 0
      · have hr : makeS n1 l1 n2 l2 = (zF, 18) := by unfold makeS; rw [h1, h2, if_neg (by simp), if_pos hl]
        have hz : Hid (((l2.length : Int) == 0) = true) := by rw [Hid, beq_iff_eq]; omega
        rw [hr]
        clear hs1 hs2 hr h1 h2 v1 v2 hl
        go_enter_defers Try.func8, Try.ntmps8
        go_wp2_with fail
        refine (wcheck_any _ _ _ _ _ ((((S1.out.alloc _).alloc _).alloc _).alloc _)).mono ?_
        rw [e1.out]
        rintro e w1 ⟨rfl, hb⟩
        have Ka' : Hid (Cw w1 w.heap.size n1 A1 l1.length c1) := Cw.keep (Cw.keep (Cw.keep (Cw.keep (Cw.fresh (by simp) _ _ _ _ _) (blw1 _ _)) (blw1 _ _)) (blw1 _ _)) hb
        have Kb' : Hid (Cw w1 (w.heap.size + 1) n2 A2 l2.length c2) := Cw.keep (Cw.keep (Cw.keep (Cw.fresh (by simp) _ _ _ _ _) (blw1 _ _)) (blw1 _ _)) hb
        have Fo' : Hid (Ff w1 (w.heap.size + 1 + 1)) := Ff.keep (Ff.keep (Ff.fresh (by simp) _ _) (Cf.fresh (by simp) _ _ _ _ _ _ _ _ _) (blw1 _ _)) (Cf.keep (Cf.fresh (by simp) _ _ _ _ _ _ _ _ _) (blw1 _ _)) hb
        have Ko' : Hid (Cf w1 (w.heap.size + 1 + 1) false none 0 0 false none 0 0) := Cf.keep (Cf.keep (Cf.fresh (by simp) _ _ _ _ _ _ _ _ _) (blw1 _ _)) hb
        have Ke' : Hid (C1 w1 (w.heap.size + 1 + 1 + 1) (.int .i64 0)) := C1.keep (C1.fresh (by simp) _ _) hb
        have S1' : Hid (Sl w1 A1 l1 c1) := Sl.below ((((S1.out.alloc _).alloc _).alloc _).alloc _) hb
        have S2' : Hid (Sl w1 A2 l2 c2) := Sl.below ((((S2.out.alloc _).alloc _).alloc _).alloc _) hb
        have B' : Hid (Below w.heap.size w w1) := below_mono (below_mono (below_mono (below_mono (below_mono B.out (blw1 _ _)) (blw1 _ _)) (blw1 _ _)) (blw1 _ _)) hb
        clear hb S1 S2 B
        have Ka := Ka'
        have Kb := Kb'
        have Fo := Fo'
        have Ko := Ko'
        have Ke := Ke'
        have S1 := S1'
        have S2 := S2'
        have B := B'
        clear Ka' Kb' Fo' Ko' Ke' S1' S2' B'
        obtain ⟨qa0, qa1⟩ := Ka.out
        obtain ⟨qb0, qb1⟩ := Kb.out
        have hza : w.heap.size < w1.heap.size := lt_of_cell (a := ⟨w.heap.size, 0, none⟩) Ka.out.1
        have hzb : w.heap.size + 1 < w1.heap.size := lt_of_cell (a := ⟨w.heap.size + 1, 0, none⟩) Kb.out.1
        have hzo : w.heap.size + 1 + 1 < w1.heap.size := lt_of_cell (a := ⟨w.heap.size + 1 + 1, 0, none⟩) Ko.out.1
        have hze : w.heap.size + 1 + 1 + 1 < w1.heap.size := lt_of_cell (a := ⟨w.heap.size + 1 + 1 + 1, 0, none⟩) Ke.out.1
        go_wp2_with fail
        refine (want_ok _).mono ?_
        rintro e w2 ⟨rfl, hb⟩
        clear qa0 qa1 qb0 qb1
        have Ka' : Hid (Cw w2 w.heap.size n1 A1 l1.length c1) := Cw.keep Ka.out hb
        have Kb' : Hid (Cw w2 (w.heap.size + 1) n2 A2 l2.length c2) := Cw.keep Kb.out hb
        have Fo' : Hid (Ff w2 (w.heap.size + 1 + 1)) := Ff.keep Fo.out Ko.out hb
        have Ko' : Hid (Cf w2 (w.heap.size + 1 + 1) false none 0 0 false none 0 0) := Cf.keep Ko.out hb
        have Ke' : Hid (C1 w2 (w.heap.size + 1 + 1 + 1) (.int .i64 0)) := C1.keep Ke.out hb
        have S1' : Hid (Sl w2 A1 l1 c1) := Sl.below S1.out hb
        have S2' : Hid (Sl w2 A2 l2 c2) := Sl.below S2.out hb
        have B' : Hid (Below w.heap.size w w2) := below_mono B.out hb
        clear hb Ka Kb Fo Ko Ke S1 S2 B
        have Ka := Ka'
        have Kb := Kb'
        have Fo := Fo'
        have Ko := Ko'
        have Ke := Ke'
        have S1 := S1'
        have S2 := S2'
        have B := B'
        clear Ka' Kb' Fo' Ko' Ke' S1' S2' B'
        obtain ⟨qa0, qa1⟩ := Ka.out
        obtain ⟨qb0, qb1⟩ := Kb.out
        replace hza : w.heap.size < w2.heap.size := lt_of_cell (a := ⟨w.heap.size, 0, none⟩) Ka.out.1
        replace hzb : w.heap.size + 1 < w2.heap.size := lt_of_cell (a := ⟨w.heap.size + 1, 0, none⟩) Kb.out.1
        replace hzo : w.heap.size + 1 + 1 < w2.heap.size := lt_of_cell (a := ⟨w.heap.size + 1 + 1, 0, none⟩) Ko.out.1
        replace hze : w.heap.size + 1 + 1 + 1 < w2.heap.size := lt_of_cell (a := ⟨w.heap.size + 1 + 1 + 1, 0, none⟩) Ke.out.1
        go_wp2_with fail
        refine (wcheck_any _ _ _ _ _ S2.out).mono ?_
        rw [e2.out]
        rintro e w3 ⟨rfl, hb⟩
        clear qa0 qa1 qb0 qb1
        have Ka' : Hid (Cw w3 w.heap.size n1 A1 l1.length c1) := Cw.keep Ka.out hb
        have Kb' : Hid (Cw w3 (w.heap.size + 1) n2 A2 l2.length c2) := Cw.keep Kb.out hb
        have Fo' : Hid (Ff w3 (w.heap.size + 1 + 1)) := Ff.keep Fo.out Ko.out hb
        have Ko' : Hid (Cf w3 (w.heap.size + 1 + 1) false none 0 0 false none 0 0) := Cf.keep Ko.out hb
        have Ke' : Hid (C1 w3 (w.heap.size + 1 + 1 + 1) (.int .i64 0)) := C1.keep Ke.out hb
        have S1' : Hid (Sl w3 A1 l1 c1) := Sl.below S1.out hb
        have S2' : Hid (Sl w3 A2 l2 c2) := Sl.below S2.out hb
        have B' : Hid (Below w.heap.size w w3) := below_mono B.out hb
        clear hb Ka Kb Fo Ko Ke S1 S2 B
        have Ka := Ka'
        have Kb := Kb'
        have Fo := Fo'
        have Ko := Ko'
        have Ke := Ke'
        have S1 := S1'
        have S2 := S2'
        have B := B'
        clear Ka' Kb' Fo' Ko' Ke' S1' S2' B'
        obtain ⟨qa0, qa1⟩ := Ka.out
        obtain ⟨qb0, qb1⟩ := Kb.out
        replace hza : w.heap.size < w3.heap.size := lt_of_cell (a := ⟨w.heap.size, 0, none⟩) Ka.out.1
        replace hzb : w.heap.size + 1 < w3.heap.size := lt_of_cell (a := ⟨w.heap.size + 1, 0, none⟩) Kb.out.1
        replace hzo : w.heap.size + 1 + 1 < w3.heap.size := lt_of_cell (a := ⟨w.heap.size + 1 + 1, 0, none⟩) Ko.out.1
        replace hze : w.heap.size + 1 + 1 + 1 < w3.heap.size := lt_of_cell (a := ⟨w.heap.size + 1 + 1 + 1, 0, none⟩) Ke.out.1
        go_wp2_with fail
        refine (want_ok _).mono ?_
        rintro e w4 ⟨rfl, hb⟩
        clear qa0 qa1 qb0 qb1
        have Ka' : Hid (Cw w4 w.heap.size n1 A1 l1.length c1) := Cw.keep Ka.out hb
        have Kb' : Hid (Cw w4 (w.heap.size + 1) n2 A2 l2.length c2) := Cw.keep Kb.out hb
        have Fo' : Hid (Ff w4 (w.heap.size + 1 + 1)) := Ff.keep Fo.out Ko.out hb
        have Ko' : Hid (Cf w4 (w.heap.size + 1 + 1) false none 0 0 false none 0 0) := Cf.keep Ko.out hb
        have Ke' : Hid (C1 w4 (w.heap.size + 1 + 1 + 1) (.int .i64 0)) := C1.keep Ke.out hb
        have S1' : Hid (Sl w4 A1 l1 c1) := Sl.below S1.out hb
        have S2' : Hid (Sl w4 A2 l2 c2) := Sl.below S2.out hb
        have B' : Hid (Below w.heap.size w w4) := below_mono B.out hb
        clear hb Ka Kb Fo Ko Ke S1 S2 B
        have Ka := Ka'
        have Kb := Kb'
        have Fo := Fo'
        have Ko := Ko'
        have Ke := Ke'
        have S1 := S1'
        have S2 := S2'
        have B := B'
        clear Ka' Kb' Fo' Ko' Ke' S1' S2' B'
        obtain ⟨qa0, qa1⟩ := Ka.out
        obtain ⟨qb0, qb1⟩ := Kb.out
        replace hza : w.heap.size < w4.heap.size := lt_of_cell (a := ⟨w.heap.size, 0, none⟩) Ka.out.1
        replace hzb : w.heap.size + 1 < w4.heap.size := lt_of_cell (a := ⟨w.heap.size + 1, 0, none⟩) Kb.out.1
        replace hzo : w.heap.size + 1 + 1 < w4.heap.size := lt_of_cell (a := ⟨w.heap.size + 1 + 1, 0, none⟩) Ko.out.1
        replace hze : w.heap.size + 1 + 1 + 1 < w4.heap.size := lt_of_cell (a := ⟨w.heap.size + 1 + 1 + 1, 0, none⟩) Ke.out.1
        go_wp2_with fail
        refine (zero_any n2 A2 l2 c2 _).mono ?_
        rw [hz.out]
        rintro e w5 ⟨rfl, hb⟩
        clear qa0 qa1 qb0 qb1
        have Ka' : Hid (Cw w5 w.heap.size n1 A1 l1.length c1) := Cw.keep Ka.out hb
        have Kb' : Hid (Cw w5 (w.heap.size + 1) n2 A2 l2.length c2) := Cw.keep Kb.out hb
        have Fo' : Hid (Ff w5 (w.heap.size + 1 + 1)) := Ff.keep Fo.out Ko.out hb
        have Ko' : Hid (Cf w5 (w.heap.size + 1 + 1) false none 0 0 false none 0 0) := Cf.keep Ko.out hb
        have Ke' : Hid (C1 w5 (w.heap.size + 1 + 1 + 1) (.int .i64 0)) := C1.keep Ke.out hb
        have S1' : Hid (Sl w5 A1 l1 c1) := Sl.below S1.out hb
        have S2' : Hid (Sl w5 A2 l2 c2) := Sl.below S2.out hb
        have B' : Hid (Below w.heap.size w w5) := below_mono B.out hb
        clear hb Ka Kb Fo Ko Ke S1 S2 B
        have Ka := Ka'
        have Kb := Kb'
        have Fo := Fo'
        have Ko := Ko'
        have Ke := Ke'
        have S1 := S1'
        have S2 := S2'
        have B := B'
        clear Ka' Kb' Fo' Ko' Ke' S1' S2' B'
        obtain ⟨qa0, qa1⟩ := Ka.out
        obtain ⟨qb0, qb1⟩ := Kb.out
        replace hza : w.heap.size < w5.heap.size := lt_of_cell (a := ⟨w.heap.size, 0, none⟩) Ka.out.1
        replace hzb : w.heap.size + 1 < w5.heap.size := lt_of_cell (a := ⟨w.heap.size + 1, 0, none⟩) Kb.out.1
        replace hzo : w.heap.size + 1 + 1 < w5.heap.size := lt_of_cell (a := ⟨w.heap.size + 1 + 1, 0, none⟩) Ko.out.1
        replace hze : w.heap.size + 1 + 1 + 1 < w5.heap.size := lt_of_cell (a := ⟨w.heap.size + 1 + 1 + 1, 0, none⟩) Ke.out.1
        go_wp2_with fail
        refine (want_bad 18 (by decide) _).mono ?_
        rintro e w6 ⟨rfl, hb⟩
        clear qa0 qa1 qb0 qb1
        have Ka' : Hid (Cw w6 w.heap.size n1 A1 l1.length c1) := Cw.keep Ka.out hb
        have Kb' : Hid (Cw w6 (w.heap.size + 1) n2 A2 l2.length c2) := Cw.keep Kb.out hb
        have Fo' : Hid (Ff w6 (w.heap.size + 1 + 1)) := Ff.keep Fo.out Ko.out hb
        have Ko' : Hid (Cf w6 (w.heap.size + 1 + 1) false none 0 0 false none 0 0) := Cf.keep Ko.out hb
        have Ke' : Hid (C1 w6 (w.heap.size + 1 + 1 + 1) (.int .i64 0)) := C1.keep Ke.out hb
        have S1' : Hid (Sl w6 A1 l1 c1) := Sl.below S1.out hb
        have S2' : Hid (Sl w6 A2 l2 c2) := Sl.below S2.out hb
        have B' : Hid (Below w.heap.size w w6) := below_mono B.out hb
        clear hb Ka Kb Fo Ko Ke S1 S2 B
        have Ka := Ka'
        have Kb := Kb'
        have Fo := Fo'
        have Ko := Ko'
        have Ke := Ke'
        have S1 := S1'
        have S2 := S2'
        have B := B'
        clear Ka' Kb' Fo' Ko' Ke' S1' S2' B'
        go_wp2_with fail
        refine leaves_cons (f := 28) (args := #[.pointer (some ⟨w.heap.size + 1 + 1 + 1, 0, none⟩)]) (by simp) (by simp [go_sem]) ?_
        refine (catch_fall (w.heap.size + 1 + 1 + 1) 0 18 [] _ Ke.out).mono ?_
        rintro e u' w'' ⟨rfl, rfl, ob, rfl⟩
        obtain ⟨qo0, qo1, qo2, qo3⟩ := Ko.out
        obtain ⟨fo0, fo1, fo2, fo3⟩ := Fo.out
        have hze2 : w.heap.size + 1 + 1 < w6.heap.size := lt_of_cell (a := ⟨w.heap.size + 1 + 1, 0, none⟩) qo0
        have hze3 : w.heap.size + 1 + 1 + 1 < w6.heap.size := lt_of_cell (a := ⟨w.heap.size + 1 + 1 + 1, 0, none⟩) Ke.out.1
        simp [Leaves, settle, results, Try.results8, go_sem, qo0, qo1, qo2, qo3, hze2, hze3, Ke.out.1]
        exact fres_fall 18 B.out (by omega) _ _
      · have hr : makeS n1 l1 n2 l2 = (redZ (zv n1 l1) (zv n2 l2), 0) := by unfold makeS; rw [h1, h2, if_neg (by simp), if_neg hl]
        have hz : Hid (((l2.length : Int) == 0) = false) := by rw [Hid, beq_eq_false_iff_ne]; omega
        have hy : zv n2 l2 ≠ 0 := mt v2.zero.2 hl
        have hR : Hid (∀ W, Sl W A1 l1 c1 → Sl W A2 l2 c2 → Calls Try.prog 32 #[.agg #[.bool n1, .slice A1 l1.length c1], .agg #[.bool n2, .slice A2 l2.length c2]] W (FRes1 (redZ (zv n1 l1) (zv n2 l2)) W)) := fun W a b => reduce_any n1 n2 A1 A2 l1 l2 c1 c2 _ _ v1 v2 hy W a b
        rw [hr]
        generalize redZ (zv n1 l1) (zv n2 l2) = r at *
        obtain ⟨⟨np, lp⟩, ⟨nq, lq⟩⟩ := r
        clear hs1 hs2 hr h1 h2 v1 v2 hl hy
        go_enter_defers Try.func8, Try.ntmps8
        go_wp2_with fail
        refine (wcheck_any _ _ _ _ _ ((((S1.out.alloc _).alloc _).alloc _).alloc _)).mono ?_
        rw [e1.out]
        rintro e w1 ⟨rfl, hb⟩
        have Ka' : Hid (Cw w1 w.heap.size n1 A1 l1.length c1) := Cw.keep (Cw.keep (Cw.keep (Cw.keep (Cw.fresh (by simp) _ _ _ _ _) (blw1 _ _)) (blw1 _ _)) (blw1 _ _)) hb
        have Kb' : Hid (Cw w1 (w.heap.size + 1) n2 A2 l2.length c2) := Cw.keep (Cw.keep (Cw.keep (Cw.fresh (by simp) _ _ _ _ _) (blw1 _ _)) (blw1 _ _)) hb
        have Fo' : Hid (Ff w1 (w.heap.size + 1 + 1)) := Ff.keep (Ff.keep (Ff.fresh (by simp) _ _) (Cf.fresh (by simp) _ _ _ _ _ _ _ _ _) (blw1 _ _)) (Cf.keep (Cf.fresh (by simp) _ _ _ _ _ _ _ _ _) (blw1 _ _)) hb
        have Ko' : Hid (Cf w1 (w.heap.size + 1 + 1) false none 0 0 false none 0 0) := Cf.keep (Cf.keep (Cf.fresh (by simp) _ _ _ _ _ _ _ _ _) (blw1 _ _)) hb
        have Ke' : Hid (C1 w1 (w.heap.size + 1 + 1 + 1) (.int .i64 0)) := C1.keep (C1.fresh (by simp) _ _) hb
        have S1' : Hid (Sl w1 A1 l1 c1) := Sl.below ((((S1.out.alloc _).alloc _).alloc _).alloc _) hb
        have S2' : Hid (Sl w1 A2 l2 c2) := Sl.below ((((S2.out.alloc _).alloc _).alloc _).alloc _) hb
        have B' : Hid (Below w.heap.size w w1) := below_mono (below_mono (below_mono (below_mono (below_mono B.out (blw1 _ _)) (blw1 _ _)) (blw1 _ _)) (blw1 _ _)) hb
        clear hb S1 S2 B
        have Ka := Ka'
        have Kb := Kb'
        have Fo := Fo'
        have Ko := Ko'
        have Ke := Ke'
        have S1 := S1'
        have S2 := S2'
        have B := B'
        clear Ka' Kb' Fo' Ko' Ke' S1' S2' B'
        obtain ⟨qa0, qa1⟩ := Ka.out
        obtain ⟨qb0, qb1⟩ := Kb.out
        have hza : w.heap.size < w1.heap.size := lt_of_cell (a := ⟨w.heap.size, 0, none⟩) Ka.out.1
        have hzb : w.heap.size + 1 < w1.heap.size := lt_of_cell (a := ⟨w.heap.size + 1, 0, none⟩) Kb.out.1
        have hzo : w.heap.size + 1 + 1 < w1.heap.size := lt_of_cell (a := ⟨w.heap.size + 1 + 1, 0, none⟩) Ko.out.1
        have hze : w.heap.size + 1 + 1 + 1 < w1.heap.size := lt_of_cell (a := ⟨w.heap.size + 1 + 1 + 1, 0, none⟩) Ke.out.1
        go_wp2_with fail
        refine (want_ok _).mono ?_
        rintro e w2 ⟨rfl, hb⟩
        clear qa0 qa1 qb0 qb1
        have Ka' : Hid (Cw w2 w.heap.size n1 A1 l1.length c1) := Cw.keep Ka.out hb
        have Kb' : Hid (Cw w2 (w.heap.size + 1) n2 A2 l2.length c2) := Cw.keep Kb.out hb
        have Fo' : Hid (Ff w2 (w.heap.size + 1 + 1)) := Ff.keep Fo.out Ko.out hb
        have Ko' : Hid (Cf w2 (w.heap.size + 1 + 1) false none 0 0 false none 0 0) := Cf.keep Ko.out hb
        have Ke' : Hid (C1 w2 (w.heap.size + 1 + 1 + 1) (.int .i64 0)) := C1.keep Ke.out hb
        have S1' : Hid (Sl w2 A1 l1 c1) := Sl.below S1.out hb
        have S2' : Hid (Sl w2 A2 l2 c2) := Sl.below S2.out hb
        have B' : Hid (Below w.heap.size w w2) := below_mono B.out hb
        clear hb Ka Kb Fo Ko Ke S1 S2 B
        have Ka := Ka'
        have Kb := Kb'
        have Fo := Fo'
        have Ko := Ko'
        have Ke := Ke'
        have S1 := S1'
        have S2 := S2'
        have B := B'
        clear Ka' Kb' Fo' Ko' Ke' S1' S2' B'
        obtain ⟨qa0, qa1⟩ := Ka.out
        obtain ⟨qb0, qb1⟩ := Kb.out
        replace hza : w.heap.size < w2.heap.size := lt_of_cell (a := ⟨w.heap.size, 0, none⟩) Ka.out.1
        replace hzb : w.heap.size + 1 < w2.heap.size := lt_of_cell (a := ⟨w.heap.size + 1, 0, none⟩) Kb.out.1
        replace hzo : w.heap.size + 1 + 1 < w2.heap.size := lt_of_cell (a := ⟨w.heap.size + 1 + 1, 0, none⟩) Ko.out.1
        replace hze : w.heap.size + 1 + 1 + 1 < w2.heap.size := lt_of_cell (a := ⟨w.heap.size + 1 + 1 + 1, 0, none⟩) Ke.out.1
        go_wp2_with fail
        refine (wcheck_any _ _ _ _ _ S2.out).mono ?_
        rw [e2.out]
        rintro e w3 ⟨rfl, hb⟩
        clear qa0 qa1 qb0 qb1
        have Ka' : Hid (Cw w3 w.heap.size n1 A1 l1.length c1) := Cw.keep Ka.out hb
        have Kb' : Hid (Cw w3 (w.heap.size + 1) n2 A2 l2.length c2) := Cw.keep Kb.out hb
        have Fo' : Hid (Ff w3 (w.heap.size + 1 + 1)) := Ff.keep Fo.out Ko.out hb
        have Ko' : Hid (Cf w3 (w.heap.size + 1 + 1) false none 0 0 false none 0 0) := Cf.keep Ko.out hb
        have Ke' : Hid (C1 w3 (w.heap.size + 1 + 1 + 1) (.int .i64 0)) := C1.keep Ke.out hb
        have S1' : Hid (Sl w3 A1 l1 c1) := Sl.below S1.out hb
        have S2' : Hid (Sl w3 A2 l2 c2) := Sl.below S2.out hb
        have B' : Hid (Below w.heap.size w w3) := below_mono B.out hb
        clear hb Ka Kb Fo Ko Ke S1 S2 B
        have Ka := Ka'
        have Kb := Kb'
        have Fo := Fo'
        have Ko := Ko'
        have Ke := Ke'
        have S1 := S1'
        have S2 := S2'
        have B := B'
        clear Ka' Kb' Fo' Ko' Ke' S1' S2' B'
        obtain ⟨qa0, qa1⟩ := Ka.out
        obtain ⟨qb0, qb1⟩ := Kb.out
        replace hza : w.heap.size < w3.heap.size := lt_of_cell (a := ⟨w.heap.size, 0, none⟩) Ka.out.1
        replace hzb : w.heap.size + 1 < w3.heap.size := lt_of_cell (a := ⟨w.heap.size + 1, 0, none⟩) Kb.out.1
        replace hzo : w.heap.size + 1 + 1 < w3.heap.size := lt_of_cell (a := ⟨w.heap.size + 1 + 1, 0, none⟩) Ko.out.1
        replace hze : w.heap.size + 1 + 1 + 1 < w3.heap.size := lt_of_cell (a := ⟨w.heap.size + 1 + 1 + 1, 0, none⟩) Ke.out.1
        go_wp2_with fail
        refine (want_ok _).mono ?_
        rintro e w4 ⟨rfl, hb⟩
        clear qa0 qa1 qb0 qb1
        have Ka' : Hid (Cw w4 w.heap.size n1 A1 l1.length c1) := Cw.keep Ka.out hb
        have Kb' : Hid (Cw w4 (w.heap.size + 1) n2 A2 l2.length c2) := Cw.keep Kb.out hb
        have Fo' : Hid (Ff w4 (w.heap.size + 1 + 1)) := Ff.keep Fo.out Ko.out hb
        have Ko' : Hid (Cf w4 (w.heap.size + 1 + 1) false none 0 0 false none 0 0) := Cf.keep Ko.out hb
        have Ke' : Hid (C1 w4 (w.heap.size + 1 + 1 + 1) (.int .i64 0)) := C1.keep Ke.out hb
        have S1' : Hid (Sl w4 A1 l1 c1) := Sl.below S1.out hb
        have S2' : Hid (Sl w4 A2 l2 c2) := Sl.below S2.out hb
        have B' : Hid (Below w.heap.size w w4) := below_mono B.out hb
        clear hb Ka Kb Fo Ko Ke S1 S2 B
        have Ka := Ka'
        have Kb := Kb'
        have Fo := Fo'
        have Ko := Ko'
        have Ke := Ke'
        have S1 := S1'
        have S2 := S2'
        have B := B'
        clear Ka' Kb' Fo' Ko' Ke' S1' S2' B'
        obtain ⟨qa0, qa1⟩ := Ka.out
        obtain ⟨qb0, qb1⟩ := Kb.out
        replace hza : w.heap.size < w4.heap.size := lt_of_cell (a := ⟨w.heap.size, 0, none⟩) Ka.out.1
        replace hzb : w.heap.size + 1 < w4.heap.size := lt_of_cell (a := ⟨w.heap.size + 1, 0, none⟩) Kb.out.1
        replace hzo : w.heap.size + 1 + 1 < w4.heap.size := lt_of_cell (a := ⟨w.heap.size + 1 + 1, 0, none⟩) Ko.out.1
        replace hze : w.heap.size + 1 + 1 + 1 < w4.heap.size := lt_of_cell (a := ⟨w.heap.size + 1 + 1 + 1, 0, none⟩) Ke.out.1
        go_wp2_with fail
        refine (zero_any n2 A2 l2 c2 _).mono ?_
        rw [hz.out]
        rintro e w5 ⟨rfl, hb⟩
        clear qa0 qa1 qb0 qb1
        have Ka' : Hid (Cw w5 w.heap.size n1 A1 l1.length c1) := Cw.keep Ka.out hb
        have Kb' : Hid (Cw w5 (w.heap.size + 1) n2 A2 l2.length c2) := Cw.keep Kb.out hb
        have Fo' : Hid (Ff w5 (w.heap.size + 1 + 1)) := Ff.keep Fo.out Ko.out hb
        have Ko' : Hid (Cf w5 (w.heap.size + 1 + 1) false none 0 0 false none 0 0) := Cf.keep Ko.out hb
        have Ke' : Hid (C1 w5 (w.heap.size + 1 + 1 + 1) (.int .i64 0)) := C1.keep Ke.out hb
        have S1' : Hid (Sl w5 A1 l1 c1) := Sl.below S1.out hb
        have S2' : Hid (Sl w5 A2 l2 c2) := Sl.below S2.out hb
        have B' : Hid (Below w.heap.size w w5) := below_mono B.out hb
        clear hb Ka Kb Fo Ko Ke S1 S2 B
        have Ka := Ka'
        have Kb := Kb'
        have Fo := Fo'
        have Ko := Ko'
        have Ke := Ke'
        have S1 := S1'
        have S2 := S2'
        have B := B'
        clear Ka' Kb' Fo' Ko' Ke' S1' S2' B'
        obtain ⟨qa0, qa1⟩ := Ka.out
        obtain ⟨qb0, qb1⟩ := Kb.out
        replace hza : w.heap.size < w5.heap.size := lt_of_cell (a := ⟨w.heap.size, 0, none⟩) Ka.out.1
        replace hzb : w.heap.size + 1 < w5.heap.size := lt_of_cell (a := ⟨w.heap.size + 1, 0, none⟩) Kb.out.1
        replace hzo : w.heap.size + 1 + 1 < w5.heap.size := lt_of_cell (a := ⟨w.heap.size + 1 + 1, 0, none⟩) Ko.out.1
        replace hze : w.heap.size + 1 + 1 + 1 < w5.heap.size := lt_of_cell (a := ⟨w.heap.size + 1 + 1 + 1, 0, none⟩) Ke.out.1
        go_wp2_with fail
        refine (hR.out _ S1.out S2.out).mono ?_
        rintro e w6 ⟨A', c', A'', c'', rfl, hsp, hsq, hb⟩
        clear qa0 qa1 qb0 qb1
        have Ka' : Hid (Cw w6 w.heap.size n1 A1 l1.length c1) := Cw.keep Ka.out hb
        have Kb' : Hid (Cw w6 (w.heap.size + 1) n2 A2 l2.length c2) := Cw.keep Kb.out hb
        have Fo' : Hid (Ff w6 (w.heap.size + 1 + 1)) := Ff.keep Fo.out Ko.out hb
        have Ko' : Hid (Cf w6 (w.heap.size + 1 + 1) false none 0 0 false none 0 0) := Cf.keep Ko.out hb
        have Ke' : Hid (C1 w6 (w.heap.size + 1 + 1 + 1) (.int .i64 0)) := C1.keep Ke.out hb
        have S1' : Hid (Sl w6 A1 l1 c1) := Sl.below S1.out hb
        have S2' : Hid (Sl w6 A2 l2 c2) := Sl.below S2.out hb
        have B' : Hid (Below w.heap.size w w6) := below_mono B.out hb
        clear hb Ka Kb Fo Ko Ke S1 S2 B
        have Ka := Ka'
        have Kb := Kb'
        have Fo := Fo'
        have Ko := Ko'
        have Ke := Ke'
        have S1 := S1'
        have S2 := S2'
        have B := B'
        clear Ka' Kb' Fo' Ko' Ke' S1' S2' B'
        (try dsimp only at hsp hsq)
        have Sp : Hid (Sl w6 A' lp c') := hsp
        clear hsp
        have Sq : Hid (Sl w6 A'' lq c'') := hsq
        clear hsq
        obtain ⟨qo0, qo1, qo2, qo3⟩ := Ko.out
        obtain ⟨fo0, fo1, fo2, fo3⟩ := Fo.out
        obtain ⟨qe0, qe1⟩ := Ke.out
        replace hza : w.heap.size < w6.heap.size := lt_of_cell (a := ⟨w.heap.size, 0, none⟩) Ka.out.1
        replace hzb : w.heap.size + 1 < w6.heap.size := lt_of_cell (a := ⟨w.heap.size + 1, 0, none⟩) Kb.out.1
        replace hzo : w.heap.size + 1 + 1 < w6.heap.size := lt_of_cell (a := ⟨w.heap.size + 1 + 1, 0, none⟩) Ko.out.1
        replace hze : w.heap.size + 1 + 1 + 1 < w6.heap.size := lt_of_cell (a := ⟨w.heap.size + 1 + 1 + 1, 0, none⟩) Ke.out.1
        (try dsimp only)
        go_wp2_with fail
        refine leaves_cons (f := 28) (args := #[.pointer (some ⟨w.heap.size + 1 + 1 + 1, 0, none⟩)]) (by simp) (by simp [go_sem]) ?_
        refine (catch_idle ⟨w.heap.size + 1 + 1 + 1, 0, none⟩ _).mono ?_
        rintro e u' w'' ⟨rfl, rfl, rfl⟩
        simp [Leaves, settle, results, Try.results8, go_sem, qo0, qo1, qo2, qo3, qe0]
        exact fres_store (r := ((np, lp), (nq, lq))) 0 Sp.out Sq.out Ko.out Ke.out (by omega) B.out (by omega) (by omega) _ _ _ _ _

end Go.Proofs.Ythlfidbhldbedaa

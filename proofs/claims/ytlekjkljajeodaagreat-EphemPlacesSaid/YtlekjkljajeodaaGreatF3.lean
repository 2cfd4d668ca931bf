import Derived.Test.YtlekjkljajeodaaGreatF1
import Derived.Deep.RegionWith
import Derived.BigQuiet
import Derived.Deep.QuietTactic
set_option maxHeartbeats 2000000
set_option maxRecDepth 100000
namespace Go.Proofs.YtlekjkljajeodaaGreat
open Lib renaming hid → lh
open Go.RowKit
attribute [local go_sem ↓] Go.wp_at_zero Go.wp_at_succ
theorem fcheck_any (n1 n2 : Bool) (A1 A2 : Option Addr) (l1 l2 : List Nat) (c1 c2 : Nat) (w : World) (hs1 : Sl w A1 l1 c1) (hs2 : Sl w A2 l2 c2) :
  Calls Tryz.prog 102 #[.agg #[.bool n1, .slice A1 l1.length c1, .bool n2, .slice A2 l2.length c2]] w fun e w' => e = .returned (.int .i64 (chkF n1 l1 n2 l2)) ∧ Below w.heap.size w w' := by
 have S1 := lh hs1;have S2 := lh hs2;have B : Hid (Below w.heap.size w w) := Below.refl _ _
 cases hbad : badL n1 l1 || badL n2 l2 with
 | true =>
  have hr : chkF n1 l1 n2 l2 = 8 := (by unfold chkF badF; rw [hbad]; rfl);have e1 : Hid (gcdS n1 l1 n2 l2 = ((false, []), 8)) := (by rw [Hid, gcdS, hbad, if_pos rfl]);rw [hr];clear hs1 hs2 hr hbad;go_enter Tryz.func102, Tryz.ntmps102
  go_wp2_with fail
  refine (wgcd_any _ _ _ _ _ _ _ _ _ (S1.out.alloc _) (S2.out.alloc _)).mono ?_;rw [e1.out];rintro e w1 ⟨A1', c1', rfl, hsg, hb⟩;replace S1 := kS1 S1 hb;replace S2 := kS1 S2 hb;have Ka : Hid (Cf w1 w.heap.size n1 A1 l1.length c1 n2 A2 l2.length c2) := Cf.keep (Cf.fresh (by simp) _ _ _ _ _ _ _ _ _) hb;replace B := kB1 B hb;clear hb;clear hsg;obtain ⟨qa0, qa1, qa2, qa3⟩ := Ka.out;have hza := lF Ka;go_wp2_with fail
  go_quiet (fail)
  go_wp2
  go_ret
  exact ⟨rfl, below_drewN (q0a B.out (blw1 _ _)) _⟩
 | false =>
  have hg := Bool.or_eq_false_iff.1 hbad;have h1 := vz_of hs1.lim hg.1;have h2 := vz_of hs2.lim hg.2;obtain ⟨ng, lg, hgc⟩ : ∃ ng lg, wOf (Int.gcd (zv n1 l1) (zv n2 l2) : Int) = (ng, lg) := ⟨_, _, rfl⟩;have vg := vz_mk hgc.symm (fit_gcd h1.2 h2.2);have e1 : Hid (gcdS n1 l1 n2 l2 = ((ng, lg), 0)) := (by rw [← hgc]; exact vz_gcd h1 h2);obtain ⟨no, lo, ho⟩ : ∃ no lo, wOf 1 = (no, lo) := ⟨_, _, rfl⟩;have vo := vz_mk ho.symm fit_one;have hO : Hid (∀ W, Calls Tryz.prog 158 #[] W (WRes1 (no, lo) W)) := fun W => by rw [← ho]; exact one_any W
  obtain ⟨t, ht⟩ : ∃ t, t = decide (Nat.gcd (val l1) (val l2) = 1) := ⟨_, rfl⟩
  have e2 : Hid (((cmpS ng lg no lo).1 == 0) = t) := by
   have hgg : Int.gcd (zv n1 l1) (zv n2 l2) = Nat.gcd (val l1) (val l2) := (by rw [h1.val_eq, h2.val_eq]; rfl);rw [Hid, cmpS_z vg vo, ht, Bool.eq_iff_iff, beq_iff_eq, decide_eq_true_iff, hgg];simp only [cmpZ];omega
  have hr : chkF n1 l1 n2 l2 = if n2 || decide (l2.length = 0) || !t then 8 else 0 := by
   unfold chkF badF;rw [hbad, Bool.false_or, ht]
  rw [hr];clear hs1 hs2 hr hbad hg h1 h2 hgc vg ho vo ht
  cases n2 with
  | true =>
   simp only [Bool.true_or, if_true];go_enter Tryz.func102, Tryz.ntmps102
   go_wp2_with fail
   refine (wgcd_any _ _ _ _ _ _ _ _ _ (S1.out.alloc _) (S2.out.alloc _)).mono ?_;rw [e1.out];rintro e w1 ⟨A1', c1', rfl, hsg, hb⟩;replace S1 := kS1 S1 hb;replace S2 := kS1 S2 hb;have Ka : Hid (Cf w1 w.heap.size n1 A1 l1.length c1 true A2 l2.length c2) := Cf.keep (Cf.fresh (by simp) _ _ _ _ _ _ _ _ _) hb;replace B := kB1 B hb;clear hb;have Sg : Hid (Sl w1 A1' lg c1') := hsg;clear hsg;obtain ⟨qa0, qa1, qa2, qa3⟩ := Ka.out;have hza := lF Ka;have hkag := hza;go_wp2_with fail
   go_quiet (fail)
   go_wp2
   go_ret
   exact ⟨rfl, below_drewN (q0a B.out (blw1 _ _)) _⟩
  | false =>
   simp only [Bool.false_or];by_cases hl : l2.length = 0
   ·have hz : Hid (((l2.length : Int) == 0) = true) := (by rw [Hid, beq_iff_eq]; omega);rw [decide_eq_true hl, Bool.true_or, if_pos rfl];clear hl;go_enter Tryz.func102, Tryz.ntmps102
    go_wp2_with fail
    refine (wgcd_any _ _ _ _ _ _ _ _ _ (S1.out.alloc _) (S2.out.alloc _)).mono ?_;rw [e1.out];rintro e w1 ⟨A1', c1', rfl, hsg, hb⟩;replace S1 := kS1 S1 hb;replace S2 := kS1 S2 hb;have Ka : Hid (Cf w1 w.heap.size n1 A1 l1.length c1 false A2 l2.length c2) := Cf.keep (Cf.fresh (by simp) _ _ _ _ _ _ _ _ _) hb;replace B := kB1 B hb;clear hb;have Sg : Hid (Sl w1 A1' lg c1') := hsg;clear hsg;obtain ⟨qa0, qa1, qa2, qa3⟩ := Ka.out;have hza := lF Ka;have hkag := hza;go_wp2_with fail
    have J0 : Hid (((w1.alloc (.cells #[.bool ng, .slice A1' lg.length c1'] 65)).drew).cell? ⟨w.heap.size, 0, none⟩ = some (.bool n1) ∧ ((w1.alloc (.cells #[.bool ng, .slice A1' lg.length c1'] 65)).drew).cell? ⟨w.heap.size, 1, none⟩ = some (.slice A1 l1.length c1) ∧ ((w1.alloc (.cells #[.bool ng, .slice A1' lg.length c1'] 65)).drew).cell? ⟨w.heap.size, 2, none⟩ = some (.bool false) ∧ ((w1.alloc (.cells #[.bool ng, .slice A1' lg.length c1'] 65)).drew).cell? ⟨w.heap.size, 3, none⟩ = some (.slice A2 l2.length c2) ∧ ((w1.alloc (.cells #[.bool ng, .slice A1' lg.length c1'] 65)).drew).cell? ⟨w1.heap.size, 0, none⟩ = some (.bool ng) ∧ ((w1.alloc (.cells #[.bool ng, .slice A1' lg.length c1'] 65)).drew).cell? ⟨w1.heap.size, 1, none⟩ = some (.slice A1' lg.length c1')) := ⟨(Cf.keep Ka.out (blw1 _ _)).1, (Cf.keep Ka.out (blw1 _ _)).2.1, (Cf.keep Ka.out (blw1 _ _)).2.2.1, (Cf.keep Ka.out (blw1 _ _)).2.2.2, (Cw.fresh rfl _ _ _ _ _).1, (Cw.fresh rfl _ _ _ _ _).2⟩;have SG : Hid (Sl ((w1.alloc (.cells #[.bool ng, .slice A1' lg.length c1'] 65)).drew) A1' lg c1') := (Sg.out.alloc _).drew;have BX : Hid (Below w.heap.size w ((w1.alloc (.cells #[.bool ng, .slice A1' lg.length c1'] 65)).drew)) := (q0a B.out (blw1 _ _)).drew;clear S1 S2 Sg B
    go_region_with (first
      | (go_at_call 148; refine (zero_any false A2 l2 c2 _).mono ?_; rw [hz.out]; rintro e v1 ⟨rfl, hb⟩; have J1 := lh (keep6 hb J0.out); obtain ⟨u0, u1, u2, u3, u4, u5⟩ := J1.out; have SG1 := lh (SG.out.below hb); have B1 := lh (q0a BX.out hb); clear hb))
    all_goals (go_wp2; go_ret; exact ⟨rfl, B1.out⟩)
   ·have hz : Hid (((l2.length : Int) == 0) = false) := (by rw [Hid, beq_eq_false_iff_ne]; omega);rw [decide_eq_false hl, Bool.false_or];clear hl;go_enter Tryz.func102, Tryz.ntmps102
    go_wp2_with fail
    refine (wgcd_any _ _ _ _ _ _ _ _ _ (S1.out.alloc _) (S2.out.alloc _)).mono ?_;rw [e1.out];rintro e w1 ⟨A1', c1', rfl, hsg, hb⟩;replace S1 := kS1 S1 hb;replace S2 := kS1 S2 hb;have Ka : Hid (Cf w1 w.heap.size n1 A1 l1.length c1 false A2 l2.length c2) := Cf.keep (Cf.fresh (by simp) _ _ _ _ _ _ _ _ _) hb;replace B := kB1 B hb;clear hb;have Sg : Hid (Sl w1 A1' lg c1') := hsg;clear hsg;obtain ⟨qa0, qa1, qa2, qa3⟩ := Ka.out;have hza := lF Ka;have hkag := hza;go_wp2_with fail
    have J0 : Hid (((w1.alloc (.cells #[.bool ng, .slice A1' lg.length c1'] 65)).drew).cell? ⟨w.heap.size, 0, none⟩ = some (.bool n1) ∧ ((w1.alloc (.cells #[.bool ng, .slice A1' lg.length c1'] 65)).drew).cell? ⟨w.heap.size, 1, none⟩ = some (.slice A1 l1.length c1) ∧ ((w1.alloc (.cells #[.bool ng, .slice A1' lg.length c1'] 65)).drew).cell? ⟨w.heap.size, 2, none⟩ = some (.bool false) ∧ ((w1.alloc (.cells #[.bool ng, .slice A1' lg.length c1'] 65)).drew).cell? ⟨w.heap.size, 3, none⟩ = some (.slice A2 l2.length c2) ∧ ((w1.alloc (.cells #[.bool ng, .slice A1' lg.length c1'] 65)).drew).cell? ⟨w1.heap.size, 0, none⟩ = some (.bool ng) ∧ ((w1.alloc (.cells #[.bool ng, .slice A1' lg.length c1'] 65)).drew).cell? ⟨w1.heap.size, 1, none⟩ = some (.slice A1' lg.length c1')) := ⟨(Cf.keep Ka.out (blw1 _ _)).1, (Cf.keep Ka.out (blw1 _ _)).2.1, (Cf.keep Ka.out (blw1 _ _)).2.2.1, (Cf.keep Ka.out (blw1 _ _)).2.2.2, (Cw.fresh rfl _ _ _ _ _).1, (Cw.fresh rfl _ _ _ _ _).2⟩;have SG : Hid (Sl ((w1.alloc (.cells #[.bool ng, .slice A1' lg.length c1'] 65)).drew) A1' lg c1') := (Sg.out.alloc _).drew;have BX : Hid (Below w.heap.size w ((w1.alloc (.cells #[.bool ng, .slice A1' lg.length c1'] 65)).drew)) := (q0a B.out (blw1 _ _)).drew;clear S1 S2 Sg B
    go_region_with (first
      | (go_at_call 148; refine (zero_any false A2 l2 c2 _).mono ?_; rw [hz.out]; rintro e v1 ⟨rfl, hb⟩; have J1 := lh (keep6 hb J0.out); obtain ⟨u0, u1, u2, u3, u4, u5⟩ := J1.out; have SG1 := lh (SG.out.below hb); have B1 := lh (q0a BX.out hb); clear hb)
      | (go_at_call 158; refine (hO.out _).mono ?_; rintro e x2 ⟨A3, c3, rfl, hs3, hb⟩; (try dsimp only at hs3); (try dsimp only); have S3 := lh hs3; have J2 := lh (keep6 hb J1.out); obtain ⟨v0, v1, v2, v3, v4, v5⟩ := J2.out; have SG2 := lh (SG1.out.below hb); have B2 := lh (q0a B1.out hb); clear hb hs3)
      | (go_at_call 157; refine (fsame_any ng no _ _ lg lo _ _ _ SG2.out S3.out).mono ?_; rw [e2.out]; rintro e v3 ⟨rfl, hb⟩; have J3 := lh (keep6 hb J2.out); have B3 := lh (q0a B2.out hb); clear hb))
    all_goals (cases t <;> (go_wp2; go_ret; exact ⟨rfl, B3.out⟩))
end Go.Proofs.YtlekjkljajeodaaGreat
namespace Go.Proofs.YtlekjkljajeodaaGreat
open Lib renaming hid → lh
open Go.RowKit
attribute [local go_sem ↓] Go.wp_at_zero Go.wp_at_succ
theorem fres_fall {w w2 : World} {g : Nat} (k : Int) (hb : Below w.heap.size w w2) (hg : w.heap.size ≤ g) (v : Value) (o : Obj) :
  FRes (zF, k) w (.returned (.tuple #[.agg #[.bool false, .slice none 0 0, .bool false, .slice none 0 0], .int .i64 k])) ((w2.setCell ⟨g, 0, none⟩ v).alloc o) :=
 ⟨none, 0, none, 0, rfl, Sl.nil _ _ _, Sl.nil _ _ _, q0a (hb.setCell (p := ⟨g, 0, none⟩) hg v) (blw1 _ _)⟩
theorem fres_store {r : (Bool × List Nat) × (Bool × List Nat)} {w w3 : World} {g ge c c' : Nat} {A A' : Option Addr} {n1 n2 : Bool} {A1 A2 : Option Addr} {m1 c1 m2 c2 : Nat} {z : Int} (k : Int) (hs : Sl w3 A r.1.2 c) (hs' : Sl w3 A' r.2.2 c') (q : Cf w3 g n1 A1 m1 c1 n2 A2 m2 c2) (qe : C1 w3 ge (.int .i64 z)) (hne : ge ≠ g) (hb : Below w.heap.size w w3) (hg : w.heap.size ≤ g) (hge : w.heap.size ≤ ge) (x y t u v : Value) :
  FRes (r, k) w (.returned (.tuple #[.agg #[.bool r.1.1, .slice A r.1.2.length c, .bool r.2.1, .slice A' r.2.2.length c'], .int .i64 k])) (((((w3.setCell ⟨g, 0, none⟩ x).setCell ⟨g, 1, none⟩ y).setCell ⟨g, 2, none⟩ t).setCell ⟨g, 3, none⟩ u).setCell ⟨ge, 0, none⟩ v) := by
 have h : ((((w3.setCell ⟨g, 0, none⟩ x).setCell ⟨g, 1, none⟩ y).setCell ⟨g, 2, none⟩ t).setCell ⟨g, 3, none⟩ u).cell? ⟨ge, 0, none⟩ = some (.int .i64 z) := by
  have ho : ∀ i, (⟨g, i, none⟩ : Addr) ≠ ⟨ge, 0, none⟩ := fun i e => hne (congrArg Addr.block e).symm;rw [World.cell?_setCell_other _ _ _ _ (ho 3), World.cell?_setCell_other _ _ _ _ (ho 2), World.cell?_setCell_other _ _ _ _ (ho 1), World.cell?_setCell_other _ _ _ _ (ho 0)];exact qe.1
 exact ⟨A, c, A', c', rfl, (hs.setF q _ _ _ _).set1' h (by decide) _, (hs'.setF q _ _ _ _).set1' h (by decide) _, (q0f hb hg _ _ _ _).setCell (p := ⟨ge, 0, none⟩) hge _⟩
theorem make_any (n1 n2 : Bool) (A1 A2 : Option Addr) (l1 l2 : List Nat) (c1 c2 : Nat) (w : World) (hs1 : Sl w A1 l1 c1) (hs2 : Sl w A2 l2 c2) :
  Calls Tryz.prog 90 #[.agg #[.bool n1, .slice A1 l1.length c1], .agg #[.bool n2, .slice A2 l2.length c2]] w (FRes (makeS n1 l1 n2 l2) w) := by
 have S1 := lh hs1;have S2 := lh hs2;have B : Hid (Below w.heap.size w w) := Below.refl _ _
 cases h1 : badL n1 l1 with
 | true =>
  have hr : makeS n1 l1 n2 l2 = (zF, 8) := (by unfold makeS; rw [h1]; rfl);have e1 : Hid (chk n1 l1 = 8) := chk_bad h1;rw [hr];clear hs1 hs2 hr h1;go_enter_defers Tryz.func90, Tryz.ntmps90
  go_wp2_with fail
  refine (wcheck_any _ _ _ _ _ ((((S1.out.alloc _).alloc _).alloc _).alloc _)).mono ?_;rw [e1.out];rintro e w1 ⟨rfl, hb⟩;replace S1 := kS4 S1 hb;replace S2 := kS4 S2 hb;have Fo : Hid (Ff w1 (w.heap.size + 1 + 1)) := Ff.keep (Ff.keep (Ff.fresh (by simp) _ _) (Cf.fresh (by simp) _ _ _ _ _ _ _ _ _) (blw1 _ _)) (Cf.keep (Cf.fresh (by simp) _ _ _ _ _ _ _ _ _) (blw1 _ _)) hb;have Ka : Hid (Cw w1 w.heap.size n1 A1 l1.length c1) := Cw.keep (Cw.keep (Cw.keep (Cw.keep (Cw.fresh (by simp) _ _ _ _ _) (blw1 _ _)) (blw1 _ _)) (blw1 _ _)) hb;have Kb : Hid (Cw w1 (w.heap.size + 1) n2 A2 l2.length c2) := Cw.keep (Cw.keep (Cw.keep (Cw.fresh (by simp) _ _ _ _ _) (blw1 _ _)) (blw1 _ _)) hb;have Ko : Hid (Cf w1 (w.heap.size + 1 + 1) false none 0 0 false none 0 0) := Cf.keep (Cf.keep (Cf.fresh (by simp) _ _ _ _ _ _ _ _ _) (blw1 _ _)) hb;have Ke : Hid (C1 w1 (w.heap.size + 1 + 1 + 1) (.int .i64 0)) := C1.keep (C1.fresh (by simp) _ _) hb;replace B := kB4 B hb;clear hb;obtain ⟨qa0, qa1⟩ := Ka.out;obtain ⟨qb0, qb1⟩ := Kb.out;have hza := lW Ka;have hzb := lW Kb;have hzo := lF Ko;have hze := lC Ke;go_wp2_with fail
  refine (want_bad 8 (by decide) _).mono ?_;rintro e w2 ⟨rfl, hb⟩;clear qa0 qa1 qb0 qb1;replace S1 := kS S1 hb;replace S2 := kS S2 hb;replace Fo := kFf Fo Ko hb;replace Ka := kW Ka hb;replace Kb := kW Kb hb;replace Ko := kF Ko hb;replace Ke := kC Ke hb;replace B := kB B hb;clear hb;go_wp2_with fail
  refine leaves_cons (f := 100) (args := #[.pointer (some ⟨w.heap.size + 1 + 1 + 1, 0, none⟩)]) (by simp) (by simp [go_sem]) ?_;refine (catch_fall (w.heap.size + 1 + 1 + 1) 0 8 [] _ Ke.out).mono ?_;rintro e u' w'' ⟨rfl, rfl, ob, rfl⟩;obtain ⟨qo0, qo1, qo2, qo3⟩ := Ko.out;obtain ⟨fo0, fo1, fo2, fo3⟩ := Fo.out;have hze2 : w.heap.size + 1 + 1 < w2.heap.size := lt_of_cell (a := ⟨w.heap.size + 1 + 1, 0, none⟩) qo0;have hze3 := lC Ke;simp [Leaves, settle, results, Tryz.results90, go_sem, qo0, qo1, qo2, qo3, hze2, hze3, Ke.out.1];exact fres_fall 8 B.out (by omega) _ _
 | false =>
  have e1 : Hid (chk n1 l1 = 0) := q2e h1
  cases h2 : badL n2 l2 with
  | true =>
   have hr : makeS n1 l1 n2 l2 = (zF, 8) := (by unfold makeS; rw [h1, h2]; rfl);have e2 : Hid (chk n2 l2 = 8) := chk_bad h2;rw [hr];clear hs1 hs2 hr h1 h2;go_enter_defers Tryz.func90, Tryz.ntmps90
   go_wp2_with fail
   refine (wcheck_any _ _ _ _ _ ((((S1.out.alloc _).alloc _).alloc _).alloc _)).mono ?_;rw [e1.out];rintro e w1 ⟨rfl, hb⟩;replace S1 := kS4 S1 hb;replace S2 := kS4 S2 hb;have Fo : Hid (Ff w1 (w.heap.size + 1 + 1)) := Ff.keep (Ff.keep (Ff.fresh (by simp) _ _) (Cf.fresh (by simp) _ _ _ _ _ _ _ _ _) (blw1 _ _)) (Cf.keep (Cf.fresh (by simp) _ _ _ _ _ _ _ _ _) (blw1 _ _)) hb;have Ka : Hid (Cw w1 w.heap.size n1 A1 l1.length c1) := Cw.keep (Cw.keep (Cw.keep (Cw.keep (Cw.fresh (by simp) _ _ _ _ _) (blw1 _ _)) (blw1 _ _)) (blw1 _ _)) hb;have Kb : Hid (Cw w1 (w.heap.size + 1) n2 A2 l2.length c2) := Cw.keep (Cw.keep (Cw.keep (Cw.fresh (by simp) _ _ _ _ _) (blw1 _ _)) (blw1 _ _)) hb;have Ko : Hid (Cf w1 (w.heap.size + 1 + 1) false none 0 0 false none 0 0) := Cf.keep (Cf.keep (Cf.fresh (by simp) _ _ _ _ _ _ _ _ _) (blw1 _ _)) hb;have Ke : Hid (C1 w1 (w.heap.size + 1 + 1 + 1) (.int .i64 0)) := C1.keep (C1.fresh (by simp) _ _) hb;replace B := kB4 B hb;clear hb;obtain ⟨qa0, qa1⟩ := Ka.out;obtain ⟨qb0, qb1⟩ := Kb.out;have hza := lW Ka;have hzb := lW Kb;have hzo := lF Ko;have hze := lC Ke;go_wp2_with fail
   refine (want_ok _).mono ?_;rintro e w2 ⟨rfl, hb⟩;clear qa0 qa1 qb0 qb1;replace S1 := kS S1 hb;replace S2 := kS S2 hb;replace Fo := kFf Fo Ko hb;replace Ka := kW Ka hb;replace Kb := kW Kb hb;replace Ko := kF Ko hb;replace Ke := kC Ke hb;replace B := kB B hb;clear hb;obtain ⟨qa0, qa1⟩ := Ka.out;obtain ⟨qb0, qb1⟩ := Kb.out;replace hza := lW Ka;replace hzb := lW Kb;replace hzo := lF Ko;replace hze := lC Ke;go_wp2_with fail
   refine (wcheck_any _ _ _ _ _ S2.out).mono ?_;rw [e2.out];rintro e w3 ⟨rfl, hb⟩;clear qa0 qa1 qb0 qb1;replace S1 := kS S1 hb;replace S2 := kS S2 hb;replace Fo := kFf Fo Ko hb;replace Ka := kW Ka hb;replace Kb := kW Kb hb;replace Ko := kF Ko hb;replace Ke := kC Ke hb;replace B := kB B hb;clear hb;obtain ⟨qa0, qa1⟩ := Ka.out;obtain ⟨qb0, qb1⟩ := Kb.out;replace hza := lW Ka;replace hzb := lW Kb;replace hzo := lF Ko;replace hze := lC Ke;go_wp2_with fail
   refine (want_bad 8 (by decide) _).mono ?_;rintro e w4 ⟨rfl, hb⟩;clear qa0 qa1 qb0 qb1;replace S1 := kS S1 hb;replace S2 := kS S2 hb;replace Fo := kFf Fo Ko hb;replace Ka := kW Ka hb;replace Kb := kW Kb hb;replace Ko := kF Ko hb;replace Ke := kC Ke hb;replace B := kB B hb;clear hb;go_wp2_with fail
   refine leaves_cons (f := 100) (args := #[.pointer (some ⟨w.heap.size + 1 + 1 + 1, 0, none⟩)]) (by simp) (by simp [go_sem]) ?_;refine (catch_fall (w.heap.size + 1 + 1 + 1) 0 8 [] _ Ke.out).mono ?_;rintro e u' w'' ⟨rfl, rfl, ob, rfl⟩;obtain ⟨qo0, qo1, qo2, qo3⟩ := Ko.out;obtain ⟨fo0, fo1, fo2, fo3⟩ := Fo.out;have hze2 : w.heap.size + 1 + 1 < w4.heap.size := lt_of_cell (a := ⟨w.heap.size + 1 + 1, 0, none⟩) qo0;have hze3 := lC Ke;simp [Leaves, settle, results, Tryz.results90, go_sem, qo0, qo1, qo2, qo3, hze2, hze3, Ke.out.1];exact fres_fall 8 B.out (by omega) _ _
  | false =>
   have v1 := vz_of hs1.lim h1;have v2 := vz_of hs2.lim h2;have e2 : Hid (chk n2 l2 = 0) := q2e h2;by_cases hl : l2.length = 0
   ·have hr : makeS n1 l1 n2 l2 = (zF, 18) := (by unfold makeS; rw [h1, h2, if_neg (by simp), if_pos hl]);have hz : Hid (((l2.length : Int) == 0) = true) := (by rw [Hid, beq_iff_eq]; omega);rw [hr];clear hs1 hs2 hr h1 h2 v1 v2 hl;go_enter_defers Tryz.func90, Tryz.ntmps90
    go_wp2_with fail
    refine (wcheck_any _ _ _ _ _ ((((S1.out.alloc _).alloc _).alloc _).alloc _)).mono ?_;rw [e1.out];rintro e w1 ⟨rfl, hb⟩;replace S1 := kS4 S1 hb;replace S2 := kS4 S2 hb;have Fo : Hid (Ff w1 (w.heap.size + 1 + 1)) := Ff.keep (Ff.keep (Ff.fresh (by simp) _ _) (Cf.fresh (by simp) _ _ _ _ _ _ _ _ _) (blw1 _ _)) (Cf.keep (Cf.fresh (by simp) _ _ _ _ _ _ _ _ _) (blw1 _ _)) hb;have Ka : Hid (Cw w1 w.heap.size n1 A1 l1.length c1) := Cw.keep (Cw.keep (Cw.keep (Cw.keep (Cw.fresh (by simp) _ _ _ _ _) (blw1 _ _)) (blw1 _ _)) (blw1 _ _)) hb;have Kb : Hid (Cw w1 (w.heap.size + 1) n2 A2 l2.length c2) := Cw.keep (Cw.keep (Cw.keep (Cw.fresh (by simp) _ _ _ _ _) (blw1 _ _)) (blw1 _ _)) hb;have Ko : Hid (Cf w1 (w.heap.size + 1 + 1) false none 0 0 false none 0 0) := Cf.keep (Cf.keep (Cf.fresh (by simp) _ _ _ _ _ _ _ _ _) (blw1 _ _)) hb;have Ke : Hid (C1 w1 (w.heap.size + 1 + 1 + 1) (.int .i64 0)) := C1.keep (C1.fresh (by simp) _ _) hb;replace B := kB4 B hb;clear hb;obtain ⟨qa0, qa1⟩ := Ka.out;obtain ⟨qb0, qb1⟩ := Kb.out;have hza := lW Ka;have hzb := lW Kb;have hzo := lF Ko;have hze := lC Ke;go_wp2_with fail
    refine (want_ok _).mono ?_;rintro e w2 ⟨rfl, hb⟩;clear qa0 qa1 qb0 qb1;replace S1 := kS S1 hb;replace S2 := kS S2 hb;replace Fo := kFf Fo Ko hb;replace Ka := kW Ka hb;replace Kb := kW Kb hb;replace Ko := kF Ko hb;replace Ke := kC Ke hb;replace B := kB B hb;clear hb;obtain ⟨qa0, qa1⟩ := Ka.out;obtain ⟨qb0, qb1⟩ := Kb.out;replace hza := lW Ka;replace hzb := lW Kb;replace hzo := lF Ko;replace hze := lC Ke;go_wp2_with fail
    refine (wcheck_any _ _ _ _ _ S2.out).mono ?_;rw [e2.out];rintro e w3 ⟨rfl, hb⟩;clear qa0 qa1 qb0 qb1;replace S1 := kS S1 hb;replace S2 := kS S2 hb;replace Fo := kFf Fo Ko hb;replace Ka := kW Ka hb;replace Kb := kW Kb hb;replace Ko := kF Ko hb;replace Ke := kC Ke hb;replace B := kB B hb;clear hb;obtain ⟨qa0, qa1⟩ := Ka.out;obtain ⟨qb0, qb1⟩ := Kb.out;replace hza := lW Ka;replace hzb := lW Kb;replace hzo := lF Ko;replace hze := lC Ke;go_wp2_with fail
    refine (want_ok _).mono ?_;rintro e w4 ⟨rfl, hb⟩;clear qa0 qa1 qb0 qb1;replace S1 := kS S1 hb;replace S2 := kS S2 hb;replace Fo := kFf Fo Ko hb;replace Ka := kW Ka hb;replace Kb := kW Kb hb;replace Ko := kF Ko hb;replace Ke := kC Ke hb;replace B := kB B hb;clear hb;obtain ⟨qa0, qa1⟩ := Ka.out;obtain ⟨qb0, qb1⟩ := Kb.out;replace hza := lW Ka;replace hzb := lW Kb;replace hzo := lF Ko;replace hze := lC Ke;go_wp2_with fail
    refine (zero_any n2 A2 l2 c2 _).mono ?_;rw [hz.out];rintro e w5 ⟨rfl, hb⟩;clear qa0 qa1 qb0 qb1;replace S1 := kS S1 hb;replace S2 := kS S2 hb;replace Fo := kFf Fo Ko hb;replace Ka := kW Ka hb;replace Kb := kW Kb hb;replace Ko := kF Ko hb;replace Ke := kC Ke hb;replace B := kB B hb;clear hb;obtain ⟨qa0, qa1⟩ := Ka.out;obtain ⟨qb0, qb1⟩ := Kb.out;replace hza := lW Ka;replace hzb := lW Kb;replace hzo := lF Ko;replace hze := lC Ke;go_wp2_with fail
    refine (want_bad 18 (by decide) _).mono ?_;rintro e w6 ⟨rfl, hb⟩;clear qa0 qa1 qb0 qb1;replace S1 := kS S1 hb;replace S2 := kS S2 hb;replace Fo := kFf Fo Ko hb;replace Ka := kW Ka hb;replace Kb := kW Kb hb;replace Ko := kF Ko hb;replace Ke := kC Ke hb;replace B := kB B hb;clear hb;go_wp2_with fail
    refine leaves_cons (f := 100) (args := #[.pointer (some ⟨w.heap.size + 1 + 1 + 1, 0, none⟩)]) (by simp) (by simp [go_sem]) ?_;refine (catch_fall (w.heap.size + 1 + 1 + 1) 0 18 [] _ Ke.out).mono ?_;rintro e u' w'' ⟨rfl, rfl, ob, rfl⟩;obtain ⟨qo0, qo1, qo2, qo3⟩ := Ko.out;obtain ⟨fo0, fo1, fo2, fo3⟩ := Fo.out;have hze2 : w.heap.size + 1 + 1 < w6.heap.size := lt_of_cell (a := ⟨w.heap.size + 1 + 1, 0, none⟩) qo0;have hze3 := lC Ke;simp [Leaves, settle, results, Tryz.results90, go_sem, qo0, qo1, qo2, qo3, hze2, hze3, Ke.out.1];exact fres_fall 18 B.out (by omega) _ _
   ·have hr : makeS n1 l1 n2 l2 = (redZ (zv n1 l1) (zv n2 l2), 0) := (by unfold makeS; rw [h1, h2, if_neg (by simp), if_neg hl]);have hz : Hid (((l2.length : Int) == 0) = false) := (by rw [Hid, beq_eq_false_iff_ne]; omega);have hy : zv n2 l2 ≠ 0 := mt v2.zero.2 hl;have hR : Hid (∀ W, Sl W A1 l1 c1 → Sl W A2 l2 c2 → Calls Tryz.prog 149 #[.agg #[.bool n1, .slice A1 l1.length c1], .agg #[.bool n2, .slice A2 l2.length c2]] W (q1g (redZ (zv n1 l1) (zv n2 l2)) W)) := fun W a b => reduce_any n1 n2 A1 A2 l1 l2 c1 c2 _ _ v1 v2 hy W a b;rw [hr];generalize redZ (zv n1 l1) (zv n2 l2) = r at *;obtain ⟨⟨np, lp⟩, ⟨nq, lq⟩⟩ := r;clear hs1 hs2 hr h1 h2 v1 v2 hl hy;go_enter_defers Tryz.func90, Tryz.ntmps90
    go_wp2_with fail
    refine (wcheck_any _ _ _ _ _ ((((S1.out.alloc _).alloc _).alloc _).alloc _)).mono ?_;rw [e1.out];rintro e w1 ⟨rfl, hb⟩;replace S1 := kS4 S1 hb;replace S2 := kS4 S2 hb;have Fo : Hid (Ff w1 (w.heap.size + 1 + 1)) := Ff.keep (Ff.keep (Ff.fresh (by simp) _ _) (Cf.fresh (by simp) _ _ _ _ _ _ _ _ _) (blw1 _ _)) (Cf.keep (Cf.fresh (by simp) _ _ _ _ _ _ _ _ _) (blw1 _ _)) hb;have Ka : Hid (Cw w1 w.heap.size n1 A1 l1.length c1) := Cw.keep (Cw.keep (Cw.keep (Cw.keep (Cw.fresh (by simp) _ _ _ _ _) (blw1 _ _)) (blw1 _ _)) (blw1 _ _)) hb;have Kb : Hid (Cw w1 (w.heap.size + 1) n2 A2 l2.length c2) := Cw.keep (Cw.keep (Cw.keep (Cw.fresh (by simp) _ _ _ _ _) (blw1 _ _)) (blw1 _ _)) hb;have Ko : Hid (Cf w1 (w.heap.size + 1 + 1) false none 0 0 false none 0 0) := Cf.keep (Cf.keep (Cf.fresh (by simp) _ _ _ _ _ _ _ _ _) (blw1 _ _)) hb;have Ke : Hid (C1 w1 (w.heap.size + 1 + 1 + 1) (.int .i64 0)) := C1.keep (C1.fresh (by simp) _ _) hb;replace B := kB4 B hb;clear hb;obtain ⟨qa0, qa1⟩ := Ka.out;obtain ⟨qb0, qb1⟩ := Kb.out;have hza := lW Ka;have hzb := lW Kb;have hzo := lF Ko;have hze := lC Ke;go_wp2_with fail
    refine (want_ok _).mono ?_;rintro e w2 ⟨rfl, hb⟩;clear qa0 qa1 qb0 qb1;replace S1 := kS S1 hb;replace S2 := kS S2 hb;replace Fo := kFf Fo Ko hb;replace Ka := kW Ka hb;replace Kb := kW Kb hb;replace Ko := kF Ko hb;replace Ke := kC Ke hb;replace B := kB B hb;clear hb;obtain ⟨qa0, qa1⟩ := Ka.out;obtain ⟨qb0, qb1⟩ := Kb.out;replace hza := lW Ka;replace hzb := lW Kb;replace hzo := lF Ko;replace hze := lC Ke;go_wp2_with fail
    refine (wcheck_any _ _ _ _ _ S2.out).mono ?_;rw [e2.out];rintro e w3 ⟨rfl, hb⟩;clear qa0 qa1 qb0 qb1;replace S1 := kS S1 hb;replace S2 := kS S2 hb;replace Fo := kFf Fo Ko hb;replace Ka := kW Ka hb;replace Kb := kW Kb hb;replace Ko := kF Ko hb;replace Ke := kC Ke hb;replace B := kB B hb;clear hb;obtain ⟨qa0, qa1⟩ := Ka.out;obtain ⟨qb0, qb1⟩ := Kb.out;replace hza := lW Ka;replace hzb := lW Kb;replace hzo := lF Ko;replace hze := lC Ke;go_wp2_with fail
    refine (want_ok _).mono ?_;rintro e w4 ⟨rfl, hb⟩;clear qa0 qa1 qb0 qb1;replace S1 := kS S1 hb;replace S2 := kS S2 hb;replace Fo := kFf Fo Ko hb;replace Ka := kW Ka hb;replace Kb := kW Kb hb;replace Ko := kF Ko hb;replace Ke := kC Ke hb;replace B := kB B hb;clear hb;obtain ⟨qa0, qa1⟩ := Ka.out;obtain ⟨qb0, qb1⟩ := Kb.out;replace hza := lW Ka;replace hzb := lW Kb;replace hzo := lF Ko;replace hze := lC Ke;go_wp2_with fail
    refine (zero_any n2 A2 l2 c2 _).mono ?_;rw [hz.out];rintro e w5 ⟨rfl, hb⟩;clear qa0 qa1 qb0 qb1;replace S1 := kS S1 hb;replace S2 := kS S2 hb;replace Fo := kFf Fo Ko hb;replace Ka := kW Ka hb;replace Kb := kW Kb hb;replace Ko := kF Ko hb;replace Ke := kC Ke hb;replace B := kB B hb;clear hb;obtain ⟨qa0, qa1⟩ := Ka.out;obtain ⟨qb0, qb1⟩ := Kb.out;replace hza := lW Ka;replace hzb := lW Kb;replace hzo := lF Ko;replace hze := lC Ke;go_wp2_with fail
    refine (hR.out _ S1.out S2.out).mono ?_;rintro e w6 ⟨A', c', A'', c'', rfl, hsp, hsq, hb⟩;clear qa0 qa1 qb0 qb1;replace S1 := kS S1 hb;replace S2 := kS S2 hb;replace Fo := kFf Fo Ko hb;replace Ka := kW Ka hb;replace Kb := kW Kb hb;replace Ko := kF Ko hb;replace Ke := kC Ke hb;replace B := kB B hb;clear hb;(try dsimp only at hsp hsq);have Sp : Hid (Sl w6 A' lp c') := hsp;clear hsp;have Sq : Hid (Sl w6 A'' lq c'') := hsq;clear hsq;obtain ⟨qo0, qo1, qo2, qo3⟩ := Ko.out;obtain ⟨fo0, fo1, fo2, fo3⟩ := Fo.out;obtain ⟨qe0, qe1⟩ := Ke.out;replace hza := lW Ka;replace hzb := lW Kb;replace hzo := lF Ko;replace hze := lC Ke;(try dsimp only);go_wp2_with fail
    refine leaves_cons (f := 100) (args := #[.pointer (some ⟨w.heap.size + 1 + 1 + 1, 0, none⟩)]) (by simp) (by simp [go_sem]) ?_;refine (catch_idle ⟨w.heap.size + 1 + 1 + 1, 0, none⟩ _).mono ?_;rintro e u' w'' ⟨rfl, rfl, rfl⟩;simp [Leaves, settle, results, Tryz.results90, go_sem, qo0, qo1, qo2, qo3, qe0];exact fres_store (r := ((np, lp), (nq, lq))) 0 Sp.out Sq.out Ko.out Ke.out (by omega) B.out (by omega) (by omega) _ _ _ _ _
end Go.Proofs.YtlekjkljajeodaaGreat
namespace Go.Proofs.YtlekjkljajeodaaGreat
open Lib renaming hid → lh
open Go.RowKit
attribute [local go_sem ↓] Go.wp_at_zero Go.wp_at_succ
theorem fit_i64 {n : Int} (h1 : -9223372036854775808 ≤ n) (h2 : n ≤ 9223372036854775807) : fitZ n := fit_of_lt (k := 2) (by omega) (by omega)
theorem sameB_z {n1 n2 : Bool} {l1 l2 : List Nat} {x y : Int} (h1 : VZ n1 l1 x) (h2 : VZ n2 l2 y) : sameB n1 l1 n2 l2 = decide (x = y) := by
 by_cases h : x = y
 ·subst h;obtain ⟨rfl, rfl⟩ := Prod.mk.inj (h1.inj h2);simp [sameB]
 ·rw [decide_eq_false h];unfold sameB
  cases hb : (n1 == n2) && decide (l1 = l2) with
  | false => rfl
  | true =>
   simp only [Bool.and_eq_true, beq_iff_eq, decide_eq_true_eq] at hb;obtain ⟨rfl, rfl⟩ := hb;exact absurd (h1.zv_eq.symm.trans h2.zv_eq) h
theorem q0z {r : (Bool × List Nat) × (Bool × List Nat)} {w w3 : World} {g c c' : Nat} {A A' : Option Addr} {n1 n2 : Bool} {A1 A2 : Option Addr} {m1 c1 m2 c2 : Nat} (k : Int) (hs : Sl w3 A r.1.2 c) (hs' : Sl w3 A' r.2.2 c') (q : Cf w3 g n1 A1 m1 c1 n2 A2 m2 c2) (hb : Below w.heap.size w w3) (hg : w.heap.size ≤ g) (x y t u : Value) :
  FRes (r, k) w (.returned (.tuple #[.agg #[.bool r.1.1, .slice A r.1.2.length c, .bool r.2.1, .slice A' r.2.2.length c'], .int .i64 k])) ((((w3.setCell ⟨g, 0, none⟩ x).setCell ⟨g, 1, none⟩ y).setCell ⟨g, 2, none⟩ t).setCell ⟨g, 3, none⟩ u) :=
 ⟨A, c, A', c', rfl, hs.setF q _ _ _ _, hs'.setF q _ _ _ _, q0f hb hg _ _ _ _⟩
theorem make_of {n m : Int} (h1 : -9223372036854775808 ≤ n) (h2 : n ≤ 9223372036854775807) (h3 : -9223372036854775808 ≤ m) (h4 : m ≤ 9223372036854775807) : makeS (wOf n).1 (wOf n).2 (wOf m).1 (wOf m).2 = ofS n m :=
 make_good (q1o (fit_i64 h1 h2)) (q1o (fit_i64 h3 h4))
theorem of_any (n m : Int) (h1 : -9223372036854775808 ≤ n) (h2 : n ≤ 9223372036854775807) (h3 : -9223372036854775808 ≤ m) (h4 : m ≤ 9223372036854775807) (w : World) :
  Calls Tryz.prog 44 #[.int .i64 n, .int .i64 m] w (FRes (ofS n m) w) := by
 have hm := make_of h1 h2 h3 h4;obtain ⟨np, lp, hp⟩ : ∃ np lp, wOf n = (np, lp) := ⟨_, _, rfl⟩;obtain ⟨nq, lq, hq⟩ : ∃ nq lq, wOf m = (nq, lq) := ⟨_, _, rfl⟩;have F1 : Hid (∀ W, Calls Tryz.prog 91 #[.int .i64 n] W (WRes1 (np, lp) W)) := fun W => by rw [← hp]; exact from_any n W h1 h2
 have F2 : Hid (∀ W, Calls Tryz.prog 91 #[.int .i64 m] W (WRes1 (nq, lq) W)) := fun W => by rw [← hq]; exact from_any m W h3 h4
 rw [hp, hq] at hm;have Hm : Hid (makeS np lp nq lq = ofS n m) := hm;generalize ofS n m = r at *;obtain ⟨⟨⟨na, la⟩, ⟨nb, lb⟩⟩, k⟩ := r;have B : Hid (Below w.heap.size w w) := Below.refl _ _;clear hm hp hq h1 h2 h3 h4;go_enter Tryz.func44, Tryz.ntmps44
 go_wp2_with fail
 refine (F1.out _).mono ?_;rintro e w1 ⟨A1, c1, rfl, hsp, hb⟩;have Fo : Hid (Ff w1 w.heap.size) := Ff.keep (Ff.fresh (by simp) _ _) (Cf.fresh (by simp) _ _ _ _ _ _ _ _ _) hb;have Ko : Hid (Cf w1 w.heap.size false none 0 0 false none 0 0) := Cf.keep (Cf.fresh (by simp) _ _ _ _ _ _ _ _ _) hb;replace B := kB1 B hb;clear hb;(try dsimp only at hsp);(try dsimp only);have Sp : Hid (Sl w1 A1 lp c1) := hsp;clear hsp;have hzo := lF Ko;go_wp2_with fail
 refine (F2.out _).mono ?_;rintro e w2 ⟨A2, c2, rfl, hsq, hb⟩;replace Sp := kS Sp hb;replace Fo := kFf Fo Ko hb;replace Ko := kF Ko hb;replace B := kB B hb;clear hb;(try dsimp only at hsq);(try dsimp only);have Sq : Hid (Sl w2 A2 lq c2) := hsq;clear hsq;replace hzo := lF Ko;go_wp2_with fail
 refine (make_any np nq _ _ lp lq _ _ _ Sp.out Sq.out).mono ?_;rw [Hm.out];rintro e w3 ⟨A3, c3, A4, c4, rfl, hsa, hsb, hb⟩;replace Sp := kS Sp hb;replace Sq := kS Sq hb;replace Fo := kFf Fo Ko hb;replace Ko := kF Ko hb;replace B := kB B hb;clear hb;(try dsimp only at hsa hsb);(try dsimp only);have Sa : Hid (Sl w3 A3 la c3) := hsa;clear hsa;have Sb : Hid (Sl w3 A4 lb c4) := hsb;clear hsb;obtain ⟨qo0, qo1, qo2, qo3⟩ := Ko.out;obtain ⟨fo0, fo1, fo2, fo3⟩ := Fo.out;replace hzo := lF Ko;go_wp2_with fail
 exact bodyPost_ret (v := .tuple #[.agg #[.bool na, .slice A3 la.length c3, .bool nb, .slice A4 lb.length c4], .int .i64 k]) (by simp [results, Tryz.results44, go_sem, qo0, qo1, qo2, qo3]) rfl (q0z (r := ((na, la), (nb, lb))) k Sa.out Sb.out Ko.out B.out (by omega) _ _ _ _)
theorem rfcheck_any (n1 n2 : Bool) (A1 A2 : Option Addr) (l1 l2 : List Nat) (c1 c2 : Nat) (w : World) (hs1 : Sl w A1 l1 c1) (hs2 : Sl w A2 l2 c2) :
  Calls Tryz.prog 164 #[.agg #[.bool n1, .slice A1 l1.length c1, .bool n2, .slice A2 l2.length c2]] w fun e w' => e = .returned (.int .i64 (chkF n1 l1 n2 l2)) ∧ Below w.heap.size w w' := by
 have S1 := lh hs1;have S2 := lh hs2;have B : Hid (Below w.heap.size w w) := Below.refl _ _
 cases h1 : badL n1 l1 with
 | true =>
  have hr : chkF n1 l1 n2 l2 = 8 := (by unfold chkF badF; rw [h1]; rfl);have e1 : Hid (chk n1 l1 = 8) := chk_bad h1;rw [hr];clear hs1 hs2 hr h1;go_enter Tryz.func164, Tryz.ntmps164
  go_wp2_with fail
  refine (q0m _ _ _ _ _ (S1.out.alloc _)).mono ?_;rw [e1.out];rintro e w1 ⟨rfl, hb⟩;replace S1 := kS1 S1 hb;replace S2 := kS1 S2 hb;have Ka : Hid (Cf w1 w.heap.size n1 A1 l1.length c1 n2 A2 l2.length c2) := Cf.keep (Cf.fresh (by simp) _ _ _ _ _ _ _ _ _) hb;replace B := kB1 B hb;clear hb;obtain ⟨qa0, qa1, qa2, qa3⟩ := Ka.out;have hza := lF Ka;go_wp2
  go_ret
  exact ⟨rfl, B.out⟩
 | false =>
  have e1 : Hid (chk n1 l1 = 0) := q2e h1
  cases h2 : badL n2 l2 with
  | true =>
   have hr : chkF n1 l1 n2 l2 = 8 := (by unfold chkF badF; rw [h1, h2]; rfl);have e2 : Hid (chk n2 l2 = 8) := chk_bad h2;rw [hr];clear hs1 hs2 hr h1 h2;go_enter Tryz.func164, Tryz.ntmps164
   go_wp2_with fail
   refine (q0m _ _ _ _ _ (S1.out.alloc _)).mono ?_;rw [e1.out];rintro e w1 ⟨rfl, hb⟩;replace S1 := kS1 S1 hb;replace S2 := kS1 S2 hb;have Ka : Hid (Cf w1 w.heap.size n1 A1 l1.length c1 n2 A2 l2.length c2) := Cf.keep (Cf.fresh (by simp) _ _ _ _ _ _ _ _ _) hb;replace B := kB1 B hb;clear hb;obtain ⟨qa0, qa1, qa2, qa3⟩ := Ka.out;have hza := lF Ka;go_wp2_with fail
   refine (q0m _ _ _ _ _ S2.out).mono ?_;rw [e2.out];rintro e w2 ⟨rfl, hb⟩;clear qa0 qa1 qa2 qa3;replace S1 := kS S1 hb;replace S2 := kS S2 hb;replace Ka := kF Ka hb;replace B := kB B hb;clear hb;obtain ⟨qa0, qa1, qa2, qa3⟩ := Ka.out;replace hza := lF Ka;go_wp2
   go_ret
   exact ⟨rfl, B.out⟩
  | false =>
   have e2 : Hid (chk n2 l2 = 0) := q2e h2;have v1 := vz_of hs1.lim h1;have v2 := vz_of hs2.lim h2;obtain ⟨ng, lg, hgc⟩ : ∃ ng lg, wOf (Int.gcd (zv n1 l1) (zv n2 l2) : Int) = (ng, lg) := ⟨_, _, rfl⟩;have vg := vz_mk hgc.symm (fit_gcd v1.2 v2.2);have e3 : Hid (gcdS n1 l1 n2 l2 = ((ng, lg), 0)) := (by rw [← hgc]; exact vz_gcd v1 v2);obtain ⟨no, lo, ho⟩ : ∃ no lo, wOf 1 = (no, lo) := ⟨_, _, rfl⟩;have vo := vz_mk ho.symm fit_one;have hO : Hid (∀ W, Calls Tryz.prog 79 #[.int .i64 1] W (WRes1 (no, lo) W)) := fun W => by rw [← ho]; exact rfrom_any 1 W (by omega) (by omega)
   obtain ⟨t, ht⟩ : ∃ t, t = decide (Nat.gcd (val l1) (val l2) = 1) := ⟨_, rfl⟩
   have e4 : Hid (sameB ng lg no lo = t) := by
    have hgg : Int.gcd (zv n1 l1) (zv n2 l2) = Nat.gcd (val l1) (val l2) := (by rw [v1.val_eq, v2.val_eq]; rfl);rw [Hid, sameB_z vg vo, ht, hgg, Bool.eq_iff_iff, decide_eq_true_iff, decide_eq_true_iff];omega
   have hr : chkF n1 l1 n2 l2 = if n2 || decide (l2.length = 0) || !t then 8 else 0 := by
    unfold chkF badF;rw [h1, h2, Bool.false_or, Bool.false_or, ht]
   rw [hr];clear hs1 hs2 hr h1 h2 v1 v2 hgc vg ho vo ht
   cases n2 with
   | true =>
    simp only [Bool.true_or, if_true];go_enter Tryz.func164, Tryz.ntmps164
    go_wp2_with fail
    refine (q0m _ _ _ _ _ (S1.out.alloc _)).mono ?_;rw [e1.out];rintro e w1 ⟨rfl, hb⟩;replace S1 := kS1 S1 hb;replace S2 := kS1 S2 hb;have Ka : Hid (Cf w1 w.heap.size n1 A1 l1.length c1 true A2 l2.length c2) := Cf.keep (Cf.fresh (by simp) _ _ _ _ _ _ _ _ _) hb;replace B := kB1 B hb;clear hb;obtain ⟨qa0, qa1, qa2, qa3⟩ := Ka.out;have hza := lF Ka;go_wp2_with fail
    refine (q0m _ _ _ _ _ S2.out).mono ?_;rw [e2.out];rintro e w2 ⟨rfl, hb⟩;clear qa0 qa1 qa2 qa3;replace S1 := kS S1 hb;replace S2 := kS S2 hb;replace Ka := kF Ka hb;replace B := kB B hb;clear hb;obtain ⟨qa0, qa1, qa2, qa3⟩ := Ka.out;replace hza := lF Ka;go_wp2
    go_ret
    exact ⟨rfl, B.out⟩
   | false =>
    simp only [Bool.false_or];by_cases hl : l2.length = 0
    ·have hz : ((l2.length : Int) == 0) = true := (by rw [beq_iff_eq]; omega);rw [decide_eq_true hl, Bool.true_or, if_pos rfl];clear hl;go_enter Tryz.func164, Tryz.ntmps164
     go_wp2_with fail
     refine (q0m _ _ _ _ _ (S1.out.alloc _)).mono ?_;rw [e1.out];rintro e w1 ⟨rfl, hb⟩;replace S1 := kS1 S1 hb;replace S2 := kS1 S2 hb;have Ka : Hid (Cf w1 w.heap.size n1 A1 l1.length c1 false A2 l2.length c2) := Cf.keep (Cf.fresh (by simp) _ _ _ _ _ _ _ _ _) hb;replace B := kB1 B hb;clear hb;obtain ⟨qa0, qa1, qa2, qa3⟩ := Ka.out;have hza := lF Ka;go_wp2_with fail
     refine (q0m _ _ _ _ _ S2.out).mono ?_;rw [e2.out];rintro e w2 ⟨rfl, hb⟩;clear qa0 qa1 qa2 qa3;replace S1 := kS S1 hb;replace S2 := kS S2 hb;replace Ka := kF Ka hb;replace B := kB B hb;clear hb;obtain ⟨qa0, qa1, qa2, qa3⟩ := Ka.out;replace hza := lF Ka;go_wp2
     go_ret
     exact ⟨rfl, B.out⟩
    ·have hz : ((l2.length : Int) == 0) = false := (by rw [beq_eq_false_iff_ne]; omega);rw [decide_eq_false hl, Bool.false_or];clear hl;go_enter Tryz.func164, Tryz.ntmps164
     go_wp2_with fail
     refine (q0m _ _ _ _ _ (S1.out.alloc _)).mono ?_;rw [e1.out];rintro e w1 ⟨rfl, hb⟩;replace S1 := kS1 S1 hb;replace S2 := kS1 S2 hb;have Ka : Hid (Cf w1 w.heap.size n1 A1 l1.length c1 false A2 l2.length c2) := Cf.keep (Cf.fresh (by simp) _ _ _ _ _ _ _ _ _) hb;replace B := kB1 B hb;clear hb;obtain ⟨qa0, qa1, qa2, qa3⟩ := Ka.out;have hza := lF Ka;go_wp2_with fail
     refine (q0m _ _ _ _ _ S2.out).mono ?_;rw [e2.out];rintro e w2 ⟨rfl, hb⟩;clear qa0 qa1 qa2 qa3;replace S1 := kS S1 hb;replace S2 := kS S2 hb;replace Ka := kF Ka hb;replace B := kB B hb;clear hb;obtain ⟨qa0, qa1, qa2, qa3⟩ := Ka.out;replace hza := lF Ka;go_wp2_with fail
     refine (rgcd_any _ _ _ _ _ _ _ _ _ S1.out S2.out).mono ?_;rw [e3.out];rintro e w3 ⟨A1', c1', rfl, hsg, hb⟩;clear qa0 qa1 qa2 qa3;replace S1 := kS S1 hb;replace S2 := kS S2 hb;replace Ka := kF Ka hb;replace B := kB B hb;clear hb;have Sg : Hid (Sl w3 A1' lg c1') := hsg;clear hsg;obtain ⟨qa0, qa1, qa2, qa3⟩ := Ka.out;replace hza := lF Ka;go_wp2_with fail
     have SG : Hid (Sl ((w3.alloc (.cells #[.bool ng, .slice A1' lg.length c1'] 65)).drew) A1' lg c1') := (Sg.out.alloc _).drew;have KG : Hid (Cw ((w3.alloc (.cells #[.bool ng, .slice A1' lg.length c1'] 65)).drew) w3.heap.size ng A1' lg.length c1') := Cw.fresh rfl _ _ _ _ _;have BX : Hid (Below w.heap.size w ((w3.alloc (.cells #[.bool ng, .slice A1' lg.length c1'] 65)).drew)) := (q0a B.out (blw1 _ _)).drew
     go_region_with (first
      | (go_at_call 79; refine (hO.out _).mono ?_; rintro e x2 ⟨A3, c3, rfl, hs3, hb⟩; (try dsimp only at hs3); (try dsimp only); have S3 := lh hs3; obtain ⟨u0, u1⟩ := Cw.keep KG.out hb; have SG2 := lh (SG.out.below hb); have B2 := lh (q0a BX.out hb); clear hb hs3)
      | (go_at_call 80; refine (same_any ng no _ _ lg lo _ _ _ SG2.out S3.out).mono ?_; rw [e4.out]; rintro e x3 ⟨rfl, hb⟩; have B3 := lh (q0a B2.out hb); clear hb))
     all_goals (cases t <;> (go_wp2; go_ret; exact ⟨rfl, B3.out⟩))
end Go.Proofs.YtlekjkljajeodaaGreat
/- Walks: frac.Check and the reference's Check. -/
import Derived.Test.YthlfidbhldbedaaF2
import Derived.Deep.RegionWith
import Derived.BigQuiet
import Derived.Deep.QuietTactic
namespace Go.Proofs.Ythlfidbhldbedaa
open Go.RowKit
attribute [local go_sem ↓] Go.wp_at_zero Go.wp_at_succ
set_option maxRecDepth 100000 in
set_option maxHeartbeats 2000000 in
theorem fcheck_any (n1 n2 : Bool) (A1 A2 : Option Addr) (l1 l2 : List Nat) (c1 c2 : Nat) (w : World) (hs1 : Sl w A1 l1 c1) (hs2 : Sl w A2 l2 c2) :
    Calls Try.prog 10 #[.agg #[.bool n1, .slice A1 l1.length c1, .bool n2, .slice A2 l2.length c2]] w fun e w' => e = .returned (.int .i64 (chkF n1 l1 n2 l2)) ∧ Below w.heap.size w w' := by
  have S1 := Lib.hid hs1
  have S2 := Lib.hid hs2
  have B : Hid (Below w.heap.size w w) := Below.refl _ _
  cases hbad : badL n1 l1 || badL n2 l2 with
  | true =>
    have hr : chkF n1 l1 n2 l2 = 8 := by unfold chkF badF; rw [hbad]; rfl
    have e1 : Hid (gcdS n1 l1 n2 l2 = ((false, []), 8)) := by rw [Hid, gcdS, hbad, if_pos rfl]
    rw [hr]
    clear hs1 hs2 hr hbad
    go_enter Try.func10, Try.ntmps10
    go_wp2_with fail
    refine (wgcd_any _ _ _ _ _ _ _ _ _ (S1.out.alloc _) (S2.out.alloc _)).mono ?_
    rw [e1.out]
    rintro e w1 ⟨A1', c1', rfl, hsg, hb⟩
    have Ka' : Hid (Cf w1 w.heap.size n1 A1 l1.length c1 n2 A2 l2.length c2) := Cf.keep (Cf.fresh (by simp) _ _ _ _ _ _ _ _ _) hb
    have S1' : Hid (Sl w1 A1 l1 c1) := Sl.below (S1.out.alloc _) hb
    have S2' : Hid (Sl w1 A2 l2 c2) := Sl.below (S2.out.alloc _) hb
    have B' : Hid (Below w.heap.size w w1) := below_mono (below_mono B.out (blw1 _ _)) hb
    clear hb S1 S2 B
    have Ka := Ka'
    have S1 := S1'
    have S2 := S2'
    have B := B'
    clear Ka' S1' S2' B'
    clear hsg
    obtain ⟨qa0, qa1, qa2, qa3⟩ := Ka.out
    have hza : w.heap.size < w1.heap.size := lt_of_cell (a := ⟨w.heap.size, 0, none⟩) Ka.out.1
    go_wp2_with fail
    go_quiet (fail)
    go_wp2
    go_ret
    exact ⟨rfl, below_drewN (below_mono B.out (blw1 _ _)) _⟩
  | false =>
    have hg := Bool.or_eq_false_iff.1 hbad
    have h1 := vz_of hs1.lim hg.1
    have h2 := vz_of hs2.lim hg.2
    obtain ⟨ng, lg, hgc⟩ : ∃ ng lg, wOf (Int.gcd (zv n1 l1) (zv n2 l2) : Int) = (ng, lg) := ⟨_, _, rfl⟩
    have vg := vz_mk hgc.symm (fit_gcd h1.2 h2.2)
    have e1 : Hid (gcdS n1 l1 n2 l2 = ((ng, lg), 0)) := by rw [← hgc]; exact vz_gcd h1 h2
    obtain ⟨no, lo, ho⟩ : ∃ no lo, wOf 1 = (no, lo) := ⟨_, _, rfl⟩
    have vo := vz_mk ho.symm fit_one
    have hO : Hid (∀ W, Calls Try.prog 37 #[] W (WRes1 (no, lo) W)) := fun W => by rw [← ho]; exact one_any W
    obtain ⟨t, ht⟩ : ∃ t, t = decide (Nat.gcd (val l1) (val l2) = 1) := ⟨_, rfl⟩
    have e2 : Hid (((cmpS ng lg no lo).1 == 0) = t) := by
      have hgg : Int.gcd (zv n1 l1) (zv n2 l2) = Nat.gcd (val l1) (val l2) := by rw [h1.val_eq, h2.val_eq]; rfl
      rw [Hid, cmpS_z vg vo, ht, Bool.eq_iff_iff, beq_iff_eq, decide_eq_true_iff, hgg]
      simp only [cmpZ]
      omega
    have hr : chkF n1 l1 n2 l2 = if n2 || decide (l2.length = 0) || !t then 8 else 0 := by
      unfold chkF badF
      rw [hbad, Bool.false_or, ht]
    rw [hr]
    clear hs1 hs2 hr hbad hg h1 h2 hgc vg ho vo ht
    cases n2 with
    | true =>
      simp only [Bool.true_or, if_true]
      go_enter Try.func10, Try.ntmps10
      go_wp2_with fail
      refine (wgcd_any _ _ _ _ _ _ _ _ _ (S1.out.alloc _) (S2.out.alloc _)).mono ?_
      rw [e1.out]
      rintro e w1 ⟨A1', c1', rfl, hsg, hb⟩
      have Ka' : Hid (Cf w1 w.heap.size n1 A1 l1.length c1 true A2 l2.length c2) := Cf.keep (Cf.fresh (by simp) _ _ _ _ _ _ _ _ _) hb
      have S1' : Hid (Sl w1 A1 l1 c1) := Sl.below (S1.out.alloc _) hb
      have S2' : Hid (Sl w1 A2 l2 c2) := Sl.below (S2.out.alloc _) hb
      have B' : Hid (Below w.heap.size w w1) := below_mono (below_mono B.out (blw1 _ _)) hb
      clear hb S1 S2 B
      have Ka := Ka'
      have S1 := S1'
      have S2 := S2'
      have B := B'
      clear Ka' S1' S2' B'
      have Sg : Hid (Sl w1 A1' lg c1') := hsg
      clear hsg
      obtain ⟨qa0, qa1, qa2, qa3⟩ := Ka.out
      have hza : w.heap.size < w1.heap.size := lt_of_cell (a := ⟨w.heap.size, 0, none⟩) Ka.out.1
      have hkag := hza
      go_wp2_with fail
      go_quiet (fail)
      go_wp2
      go_ret
      exact ⟨rfl, below_drewN (below_mono B.out (blw1 _ _)) _⟩
    | false =>
      simp only [Bool.false_or]
      by_cases hl : l2.length = 0
      · have hz : Hid (((l2.length : Int) == 0) = true) := by rw [Hid, beq_iff_eq]; omega
        rw [decide_eq_true hl, Bool.true_or, if_pos rfl]
        clear hl
        go_enter Try.func10, Try.ntmps10
        go_wp2_with fail
        refine (wgcd_any _ _ _ _ _ _ _ _ _ (S1.out.alloc _) (S2.out.alloc _)).mono ?_
        rw [e1.out]
        rintro e w1 ⟨A1', c1', rfl, hsg, hb⟩
        have Ka' : Hid (Cf w1 w.heap.size n1 A1 l1.length c1 false A2 l2.length c2) := Cf.keep (Cf.fresh (by simp) _ _ _ _ _ _ _ _ _) hb
        have S1' : Hid (Sl w1 A1 l1 c1) := Sl.below (S1.out.alloc _) hb
        have S2' : Hid (Sl w1 A2 l2 c2) := Sl.below (S2.out.alloc _) hb
        have B' : Hid (Below w.heap.size w w1) := below_mono (below_mono B.out (blw1 _ _)) hb
        clear hb S1 S2 B
        have Ka := Ka'
        have S1 := S1'
        have S2 := S2'
        have B := B'
        clear Ka' S1' S2' B'
        have Sg : Hid (Sl w1 A1' lg c1') := hsg
        clear hsg
        obtain ⟨qa0, qa1, qa2, qa3⟩ := Ka.out
        have hza : w.heap.size < w1.heap.size := lt_of_cell (a := ⟨w.heap.size, 0, none⟩) Ka.out.1
        have hkag := hza
        go_wp2_with fail
        have J0 : Hid (((w1.alloc (.cells #[.bool ng, .slice A1' lg.length c1'] 24)).drew).cell? ⟨w.heap.size, 0, none⟩ = some (.bool n1) ∧ ((w1.alloc (.cells #[.bool ng, .slice A1' lg.length c1'] 24)).drew).cell? ⟨w.heap.size, 1, none⟩ = some (.slice A1 l1.length c1) ∧ ((w1.alloc (.cells #[.bool ng, .slice A1' lg.length c1'] 24)).drew).cell? ⟨w.heap.size, 2, none⟩ = some (.bool false) ∧ ((w1.alloc (.cells #[.bool ng, .slice A1' lg.length c1'] 24)).drew).cell? ⟨w.heap.size, 3, none⟩ = some (.slice A2 l2.length c2) ∧ ((w1.alloc (.cells #[.bool ng, .slice A1' lg.length c1'] 24)).drew).cell? ⟨w1.heap.size, 0, none⟩ = some (.bool ng) ∧ ((w1.alloc (.cells #[.bool ng, .slice A1' lg.length c1'] 24)).drew).cell? ⟨w1.heap.size, 1, none⟩ = some (.slice A1' lg.length c1')) := ⟨(Cf.keep Ka.out (blw1 _ _)).1, (Cf.keep Ka.out (blw1 _ _)).2.1, (Cf.keep Ka.out (blw1 _ _)).2.2.1, (Cf.keep Ka.out (blw1 _ _)).2.2.2, (Cw.fresh rfl _ _ _ _ _).1, (Cw.fresh rfl _ _ _ _ _).2⟩
        have SG : Hid (Sl ((w1.alloc (.cells #[.bool ng, .slice A1' lg.length c1'] 24)).drew) A1' lg c1') := (Sg.out.alloc _).drew
        have BX : Hid (Below w.heap.size w ((w1.alloc (.cells #[.bool ng, .slice A1' lg.length c1'] 24)).drew)) := (below_mono B.out (blw1 _ _)).drew
        clear S1 S2 Sg B
        go_region_with (first
            | (go_at_call 31; refine (zero_any false A2 l2 c2 _).mono ?_; rw [hz.out]; rintro e v1 ⟨rfl, hb⟩; have J1 := Lib.hid (keep6 hb J0.out); obtain ⟨u0, u1, u2, u3, u4, u5⟩ := J1.out; have SG1 := Lib.hid (SG.out.below hb); have B1 := Lib.hid (below_mono BX.out hb); clear hb))
        all_goals (go_wp2; go_ret; exact ⟨rfl, B1.out⟩)
      · have hz : Hid (((l2.length : Int) == 0) = false) := by rw [Hid, beq_eq_false_iff_ne]; omega
        rw [decide_eq_false hl, Bool.false_or]
        clear hl
        go_enter Try.func10, Try.ntmps10
        go_wp2_with fail
        refine (wgcd_any _ _ _ _ _ _ _ _ _ (S1.out.alloc _) (S2.out.alloc _)).mono ?_
        rw [e1.out]
        rintro e w1 ⟨A1', c1', rfl, hsg, hb⟩
        have Ka' : Hid (Cf w1 w.heap.size n1 A1 l1.length c1 false A2 l2.length c2) := Cf.keep (Cf.fresh (by simp) _ _ _ _ _ _ _ _ _) hb
        have S1' : Hid (Sl w1 A1 l1 c1) := Sl.below (S1.out.alloc _) hb
        have S2' : Hid (Sl w1 A2 l2 c2) := Sl.below (S2.out.alloc _) hb
        have B' : Hid (Below w.heap.size w w1) := below_mono (below_mono B.out (blw1 _ _)) hb
        clear hb S1 S2 B
        have Ka := Ka'
        have S1 := S1'
        have S2 := S2'
        have B := B'
        clear Ka' S1' S2' B'
        have Sg : Hid (Sl w1 A1' lg c1') := hsg
        clear hsg
        obtain ⟨qa0, qa1, qa2, qa3⟩ := Ka.out
        have hza : w.heap.size < w1.heap.size := lt_of_cell (a := ⟨w.heap.size, 0, none⟩) Ka.out.1
        have hkag := hza
        go_wp2_with fail
        have J0 : Hid (((w1.alloc (.cells #[.bool ng, .slice A1' lg.length c1'] 24)).drew).cell? ⟨w.heap.size, 0, none⟩ = some (.bool n1) ∧ ((w1.alloc (.cells #[.bool ng, .slice A1' lg.length c1'] 24)).drew).cell? ⟨w.heap.size, 1, none⟩ = some (.slice A1 l1.length c1) ∧ ((w1.alloc (.cells #[.bool ng, .slice A1' lg.length c1'] 24)).drew).cell? ⟨w.heap.size, 2, none⟩ = some (.bool false) ∧ ((w1.alloc (.cells #[.bool ng, .slice A1' lg.length c1'] 24)).drew).cell? ⟨w.heap.size, 3, none⟩ = some (.slice A2 l2.length c2) ∧ ((w1.alloc (.cells #[.bool ng, .slice A1' lg.length c1'] 24)).drew).cell? ⟨w1.heap.size, 0, none⟩ = some (.bool ng) ∧ ((w1.alloc (.cells #[.bool ng, .slice A1' lg.length c1'] 24)).drew).cell? ⟨w1.heap.size, 1, none⟩ = some (.slice A1' lg.length c1')) := ⟨(Cf.keep Ka.out (blw1 _ _)).1, (Cf.keep Ka.out (blw1 _ _)).2.1, (Cf.keep Ka.out (blw1 _ _)).2.2.1, (Cf.keep Ka.out (blw1 _ _)).2.2.2, (Cw.fresh rfl _ _ _ _ _).1, (Cw.fresh rfl _ _ _ _ _).2⟩
        have SG : Hid (Sl ((w1.alloc (.cells #[.bool ng, .slice A1' lg.length c1'] 24)).drew) A1' lg c1') := (Sg.out.alloc _).drew
        have BX : Hid (Below w.heap.size w ((w1.alloc (.cells #[.bool ng, .slice A1' lg.length c1'] 24)).drew)) := (below_mono B.out (blw1 _ _)).drew
        clear S1 S2 Sg B
        go_region_with (first
            | (go_at_call 31; refine (zero_any false A2 l2 c2 _).mono ?_; rw [hz.out]; rintro e v1 ⟨rfl, hb⟩; have J1 := Lib.hid (keep6 hb J0.out); obtain ⟨u0, u1, u2, u3, u4, u5⟩ := J1.out; have SG1 := Lib.hid (SG.out.below hb); have B1 := Lib.hid (below_mono BX.out hb); clear hb)
            | (go_at_call 37; refine (hO.out _).mono ?_; rintro e x2 ⟨A3, c3, rfl, hs3, hb⟩; (try dsimp only at hs3); (try dsimp only); have S3 := Lib.hid hs3; have J2 := Lib.hid (keep6 hb J1.out); obtain ⟨v0, v1, v2, v3, v4, v5⟩ := J2.out; have SG2 := Lib.hid (SG1.out.below hb); have B2 := Lib.hid (below_mono B1.out hb); clear hb hs3)
            | (go_at_call 36; refine (fsame_any ng no _ _ lg lo _ _ _ SG2.out S3.out).mono ?_; rw [e2.out]; rintro e v3 ⟨rfl, hb⟩; have J3 := Lib.hid (keep6 hb J2.out); have B3 := Lib.hid (below_mono B2.out hb); clear hb))
        all_goals (cases t <;> (go_wp2; go_ret; exact ⟨rfl, B3.out⟩))

end Go.Proofs.Ythlfidbhldbedaa

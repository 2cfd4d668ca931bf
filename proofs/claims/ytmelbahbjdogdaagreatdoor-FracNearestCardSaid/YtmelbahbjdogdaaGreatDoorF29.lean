/- The walk of the law FracNearest. -/
import Derived.Test.YtmelbahbjdogdaaGreatDoorF26
import Derived.Test.YtmelbahbjdogdaaGreatDoorF24
namespace Go.Proofs.YtmelbahbjdogdaaGreatDoor
open Go.RowKit
attribute [local go_sem ↓] Go.wp_at_zero Go.wp_at_succ
theorem alive_true2 (w : World) : Calls Tryz.prog 17 #[] w fun e w' => e = .returned (.bool true) ∧ Below w.heap.size w w' := alive_any w

/-- What lies between a fraction and the whole numbers next to it. -/
theorem near_facts {k : Nat} {x y : Int} (hk : k ≤ 4000) (hx : x.natAbs < 4294967296 ^ k) (hy : y.natAbs < 4294967296 ^ k) (h : 0 < y) :
    x - x.fdiv y * y = x.fmod y ∧ ceilZ x y * y - x = (if x.fmod y = 0 then 0 else y - x.fmod y) ∧ fitZ (x.fdiv y * y) ∧ fitZ (ceilZ x y * y) := by
  obtain ⟨d1, d2, d3⟩ := dm_parts (x := x) h
  have e : x.fdiv y * y = x - x.fmod y := by rw [Int.mul_comm]; omega
  have e2 : ceilZ x y * y - x = (if x.fmod y = 0 then 0 else y - x.fmod y) := by
    unfold ceilZ
    split
    · rw [e]; omega
    · rw [Int.add_mul, e]; omega
  have hs := lt_sum hx hy
  refine ⟨by omega, e2, fit_of_lt (k := k + 1) ?_ (by omega), fit_of_lt (k := k + 1) ?_ (by omega)⟩
  · rw [e]; omega
  · have : ceilZ x y * y = x + (if x.fmod y = 0 then 0 else y - x.fmod y) := by omega
    rw [this]
    split <;> omega

set_option maxRecDepth 100000 in
set_option maxHeartbeats 4000000 in
theorem fracNearest_walk (na nb : Bool) (Aa Ab : Option Addr) (la lb : List Nat) (ca cb : Nat) (w : World) (hsa : Sl w Aa la ca) (hsb : Sl w Ab lb cb) :
    Calls Tryz.prog 4 #[.agg #[.bool na, .slice Aa la.length ca, .bool nb, .slice Ab lb.length cb]] w fun e w' => e = .returned (.bool true) ∧ Below w.heap.size w w' := by
  have Sa1 := Lib.hid hsa
  have Sa2 := Lib.hid hsb
  have B : Hid (Below w.heap.size w w) := Below.refl _ _
  cases hgr : greatF la lb with
  | true =>
    have HG := Lib.hid hgr
    clear hgr hsa hsb
    go_enter Tryz.func4, Tryz.ntmps4
    go_wp2_with fail
    refine (alive_true2 _).mono ?_
    rintro e w1 ⟨rfl, hb⟩
    replace Sa1 : Hid (Sl w1 Aa la ca) := Sl.below (Sa1.out.alloc _) hb
    replace Sa2 : Hid (Sl w1 Ab lb cb) := Sl.below (Sa2.out.alloc _) hb
    have Ka : Hid (Cf w1 w.heap.size na Aa la.length ca nb Ab lb.length cb) := Cf.keep (Cf.fresh (by simp) _ _ _ _ _ _ _ _ _) hb
    replace B : Hid (Below w.heap.size w w1) := below_mono (below_mono B.out (blw1 _ _)) hb
    clear hb
    have hza : w.heap.size < w1.heap.size := lt_of_cell (a := ⟨w.heap.size, 0, none⟩) Ka.out.1
    obtain ⟨qa0, qa1, qa2, qa3⟩ := Ka.out
    go_wp2_with fail
    refine (fgreat_any na nb _ _ la lb _ _ _).mono ?_
    rw [HG.out]
    rintro e w2 ⟨rfl, hb⟩
    clear qa0 qa1 qa2 qa3
    replace Sa1 : Hid (Sl w2 Aa la ca) := Sl.below Sa1.out hb
    replace Sa2 : Hid (Sl w2 Ab lb cb) := Sl.below Sa2.out hb
    replace Ka : Hid (Cf w2 w.heap.size na Aa la.length ca nb Ab lb.length cb) := Cf.keep Ka.out hb
    replace B : Hid (Below w.heap.size w w2) := below_mono B.out hb
    clear hb
    replace hza : w.heap.size < w2.heap.size := lt_of_cell (a := ⟨w.heap.size, 0, none⟩) Ka.out.1
    go_wp2
    go_ret
    exact ⟨rfl, B.out⟩
  | false =>
    have HG := Lib.hid hgr
    clear hgr
    cases hbad : badF na la nb lb with
    | true =>
      have E1 : Hid (chkF na la nb lb = 8) := by unfold chkF; rw [hbad]; rfl
      clear hbad hsa hsb
      go_enter Tryz.func4, Tryz.ntmps4
      go_wp2_with fail
      refine (alive_true2 _).mono ?_
      rintro e w1 ⟨rfl, hb⟩
      replace Sa1 : Hid (Sl w1 Aa la ca) := Sl.below (Sa1.out.alloc _) hb
      replace Sa2 : Hid (Sl w1 Ab lb cb) := Sl.below (Sa2.out.alloc _) hb
      have Ka : Hid (Cf w1 w.heap.size na Aa la.length ca nb Ab lb.length cb) := Cf.keep (Cf.fresh (by simp) _ _ _ _ _ _ _ _ _) hb
      replace B : Hid (Below w.heap.size w w1) := below_mono (below_mono B.out (blw1 _ _)) hb
      clear hb
      have hza : w.heap.size < w1.heap.size := lt_of_cell (a := ⟨w.heap.size, 0, none⟩) Ka.out.1
      obtain ⟨qa0, qa1, qa2, qa3⟩ := Ka.out
      go_wp2_with fail
      refine (fgreat_any na nb _ _ la lb _ _ _).mono ?_
      rw [HG.out]
      rintro e w2 ⟨rfl, hb⟩
      clear qa0 qa1 qa2 qa3
      replace Sa1 : Hid (Sl w2 Aa la ca) := Sl.below Sa1.out hb
      replace Sa2 : Hid (Sl w2 Ab lb cb) := Sl.below Sa2.out hb
      replace Ka : Hid (Cf w2 w.heap.size na Aa la.length ca nb Ab lb.length cb) := Cf.keep Ka.out hb
      replace B : Hid (Below w.heap.size w w2) := below_mono B.out hb
      clear hb
      replace hza : w.heap.size < w2.heap.size := lt_of_cell (a := ⟨w.heap.size, 0, none⟩) Ka.out.1
      obtain ⟨qa0, qa1, qa2, qa3⟩ := Ka.out
      go_wp2_with fail
      refine (rfcheck_any na nb _ _ la lb _ _ _ Sa1.out Sa2.out).mono ?_
      rw [E1.out]
      rintro e w3 ⟨rfl, hb⟩
      clear qa0 qa1 qa2 qa3
      replace Sa1 : Hid (Sl w3 Aa la ca) := Sl.below Sa1.out hb
      replace Sa2 : Hid (Sl w3 Ab lb cb) := Sl.below Sa2.out hb
      replace Ka : Hid (Cf w3 w.heap.size na Aa la.length ca nb Ab lb.length cb) := Cf.keep Ka.out hb
      replace B : Hid (Below w.heap.size w w3) := below_mono B.out hb
      clear hb
      replace hza : w.heap.size < w3.heap.size := lt_of_cell (a := ⟨w.heap.size, 0, none⟩) Ka.out.1
      go_wp2
      go_ret
      exact ⟨rfl, B.out⟩
    | false =>
      have E1 : Hid (chkF na la nb lb = 0) := by unfold chkF; rw [hbad]; rfl
      cases hfew : decide (100 < fewS la lb) with
      | true =>
        clear hbad hsa hsb
        go_enter Tryz.func4, Tryz.ntmps4
        go_wp2_with fail
        refine (alive_true2 _).mono ?_
        rintro e w1 ⟨rfl, hb⟩
        replace Sa1 : Hid (Sl w1 Aa la ca) := Sl.below (Sa1.out.alloc _) hb
        replace Sa2 : Hid (Sl w1 Ab lb cb) := Sl.below (Sa2.out.alloc _) hb
        have Ka : Hid (Cf w1 w.heap.size na Aa la.length ca nb Ab lb.length cb) := Cf.keep (Cf.fresh (by simp) _ _ _ _ _ _ _ _ _) hb
        replace B : Hid (Below w.heap.size w w1) := below_mono (below_mono B.out (blw1 _ _)) hb
        clear hb
        have hza : w.heap.size < w1.heap.size := lt_of_cell (a := ⟨w.heap.size, 0, none⟩) Ka.out.1
        obtain ⟨qa0, qa1, qa2, qa3⟩ := Ka.out
        go_wp2_with fail
        refine (fgreat_any na nb _ _ la lb _ _ _).mono ?_
        rw [HG.out]
        rintro e w2 ⟨rfl, hb⟩
        clear qa0 qa1 qa2 qa3
        replace Sa1 : Hid (Sl w2 Aa la ca) := Sl.below Sa1.out hb
        replace Sa2 : Hid (Sl w2 Ab lb cb) := Sl.below Sa2.out hb
        replace Ka : Hid (Cf w2 w.heap.size na Aa la.length ca nb Ab lb.length cb) := Cf.keep Ka.out hb
        replace B : Hid (Below w.heap.size w w2) := below_mono B.out hb
        clear hb
        replace hza : w.heap.size < w2.heap.size := lt_of_cell (a := ⟨w.heap.size, 0, none⟩) Ka.out.1
        obtain ⟨qa0, qa1, qa2, qa3⟩ := Ka.out
        go_wp2_with fail
        refine (rfcheck_any na nb _ _ la lb _ _ _ Sa1.out Sa2.out).mono ?_
        rw [E1.out]
        rintro e w3 ⟨rfl, hb⟩
        clear qa0 qa1 qa2 qa3
        replace Sa1 : Hid (Sl w3 Aa la ca) := Sl.below Sa1.out hb
        replace Sa2 : Hid (Sl w3 Ab lb cb) := Sl.below Sa2.out hb
        replace Ka : Hid (Cf w3 w.heap.size na Aa la.length ca nb Ab lb.length cb) := Cf.keep Ka.out hb
        replace B : Hid (Below w.heap.size w w3) := below_mono B.out hb
        clear hb
        replace hza : w.heap.size < w3.heap.size := lt_of_cell (a := ⟨w.heap.size, 0, none⟩) Ka.out.1
        obtain ⟨qa0, qa1, qa2, qa3⟩ := Ka.out
        go_wp2_with fail
        refine (few_any na nb _ _ la lb _ _ _).mono ?_
        rintro e w4 ⟨rfl, hb⟩
        clear qa0 qa1 qa2 qa3
        replace Sa1 : Hid (Sl w4 Aa la ca) := Sl.below Sa1.out hb
        replace Sa2 : Hid (Sl w4 Ab lb cb) := Sl.below Sa2.out hb
        replace Ka : Hid (Cf w4 w.heap.size na Aa la.length ca nb Ab lb.length cb) := Cf.keep Ka.out hb
        replace B : Hid (Below w.heap.size w w4) := below_mono B.out hb
        clear hb
        replace hza : w.heap.size < w4.heap.size := lt_of_cell (a := ⟨w.heap.size, 0, none⟩) Ka.out.1
        go_wp2
        go_ret
        exact ⟨rfl, B.out⟩
      | false =>
        have va := vf_of hsa.lim hsb.lim hbad
        have hfw : la.length ≤ 100 ∧ lb.length ≤ 100 := by have := of_decide_eq_false hfew; unfold fewS at this; omega
        have hfl : Hid (floorF na la nb lb = (wOf ((zv na la).fdiv (zv nb lb)), 0)) := by rw [Hid, floorF, hbad, if_neg (by simp)]
        have hce : Hid (fceilS na la nb lb = (wOf (ceilZ (zv na la) (zv nb lb)), 0)) := by rw [Hid, fceilS, hbad, if_neg (by simp)]
        have hro : Hid (froundS na la nb lb = (wOf (roundZ (zv na la) (zv nb lb)), 0)) := by rw [Hid, froundS, hbad, if_neg (by simp)]
        have hfit : badF na la nb lb = false → fitZ ((zv na la).fmod (zv nb lb) + (zv na la).fmod (zv nb lb)) := fun _ => dec_fit2 va.den (by omega) va.pos (Nat.le_refl _)
        have Hfit := Lib.hid hfit
        clear hfit
        obtain ⟨hx, hy, hp, -⟩ := va
        have hxl := hx.lt_of hfw.1
        have hyl := hy.lt_of hfw.2
        obtain ⟨n1, n2, n3, n4⟩ := near_facts (k := 100) (by omega) hxl hyl hp
        have fcl := ceil_fit hp hx.2
        have frl := round_fit hp hx.2
        clear hxl hyl
        generalize hxx : zv na la = x at *
        generalize hyy : zv nb lb = y at *
        obtain ⟨d1, d2, d3⟩ := dm_parts (x := x) hp
        obtain ⟨⟨np, lp⟩, hp1⟩ : ∃ p, p = wOf (x.fdiv y) := ⟨_, rfl⟩
        obtain ⟨⟨nq, lq⟩, hq1⟩ : ∃ p, p = wOf (ceilZ x y) := ⟨_, rfl⟩
        obtain ⟨⟨nr, lr⟩, hr1⟩ : ∃ p, p = wOf (roundZ x y) := ⟨_, rfl⟩
        obtain ⟨⟨ns, ls⟩, hs1⟩ : ∃ p, p = wOf (x.fdiv y * y) := ⟨_, rfl⟩
        obtain ⟨⟨nt, lt⟩, ht1⟩ : ∃ p, p = wOf (ceilZ x y * y) := ⟨_, rfl⟩
        obtain ⟨⟨nl, ll⟩, hl1⟩ : ∃ p, p = wOf (x.fmod y) := ⟨_, rfl⟩
        obtain ⟨⟨nh, lh⟩, hh1⟩ : ∃ p, p = wOf (if x.fmod y = 0 then 0 else y - x.fmod y) := ⟨_, rfl⟩
        have vp := vz_mk hp1 (fit_fdiv (y := y) hx.2)
        have vq := vz_mk hq1 fcl
        have vr := vz_mk hr1 frl
        have vs := vz_mk hs1 n3
        have vt := vz_mk ht1 n4
        have vl := vz_mk hl1 (fit_fmod (x := x) (by omega) hy.2)
        have vh := vz_mk hh1 (fit_mono (b := y) (by split <;> omega) hy.2)
        obtain rfl : nl = false := by rw [vl.neg_eq]; exact decide_eq_false (by omega)
        obtain rfl : nh = false := by rw [vh.neg_eq]; exact decide_eq_false (by split <;> omega)
        rw [← hp1] at hfl
        rw [← hq1] at hce
        rw [← hr1] at hro
        have E2 : Hid (chk np lp = 0) := vp.chk
        have E3 : Hid (chk nq lq = 0) := vq.chk
        have E4 : Hid (mulS np lp nb lb = ((ns, ls), 0)) := by rw [hs1]; exact mulS_z vp hy n3
        have E5 : Hid (mulS nq lq nb lb = ((nt, lt), 0)) := by rw [ht1]; exact mulS_z vq hy n4
        have E6 : Hid (subS na la ns ls = ((false, ll), 0)) := by rw [hl1, ← n1]; exact subS_z hx vs (by rw [n1]; exact vl.2)
        have E7 : Hid (subS nt lt na la = ((false, lh), 0)) := by rw [hh1, ← n2]; exact subS_z vt hx (by rw [n2]; exact vh.2)
        have E8 : Hid (cmpW false ll nb lb = -1) := by rw [Hid, cmpW_z vl hy]; unfold cmpZ; rw [if_pos d2]
        have E9 : Hid (cmpW false lh nb lb = -1) := by rw [Hid, cmpW_z vh hy]; unfold cmpZ; rw [if_pos (by split <;> omega)]
        obtain ⟨c, hc⟩ : ∃ c, c = cmpZ (x.fmod y) (if x.fmod y = 0 then 0 else y - x.fmod y) := ⟨_, rfl⟩
        have E10 : Hid (cmpW false ll false lh = c) := by rw [Hid, cmpW_z vl vh, hc]
        have Srp : Hid (sameB nr lr np lp = decide (roundZ x y = x.fdiv y)) := sameB_z vr vp
        have Srq : Hid (sameB nr lr nq lq = decide (roundZ x y = ceilZ x y)) := sameB_z vr vq
        have Spq : Hid (sameB np lp nq lq = decide (x.fdiv y = ceilZ x y)) := sameB_z vp vq
        have hrv := vr.val_eq
        have Hpar : Hid (lr[0]?.getD 0 % 2 = (roundZ x y).natAbs % 2) := by
          rw [Hid, ← hrv]
          cases lr with
          | nil => simp [val]
          | cons z t => simp only [List.getElem?_cons_zero, Option.getD_some, val]; omega
        have hcases : (x.fmod y = 0 ∧ c = 0 ∧ roundZ x y = x.fdiv y ∧ x.fdiv y = ceilZ x y) ∨ (c = -1 ∧ roundZ x y = x.fdiv y) ∨ (c = 1 ∧ roundZ x y = ceilZ x y) ∨ (c = 0 ∧ x.fdiv y ≠ ceilZ x y ∧ (roundZ x y).natAbs % 2 = 0 ∧ (roundZ x y = x.fdiv y ∨ (roundZ x y ≠ x.fdiv y ∧ roundZ x y = ceilZ x y))) := by
          rw [hc]
          unfold cmpZ roundZ ceilZ
          by_cases h0 : x.fmod y = 0
          · left
            rw [if_pos h0, if_pos h0, h0]
            exact ⟨rfl, by simp, by rw [if_neg (by omega)], rfl⟩
          · rw [if_neg h0, if_neg h0]
            rcases (by omega : x.fmod y < y - x.fmod y ∨ y - x.fmod y < x.fmod y ∨ x.fmod y = y - x.fmod y) with h | h | h
            · exact .inr (.inl ⟨by rw [if_pos h], by rw [if_neg (by omega)]⟩)
            · exact .inr (.inr (.inl ⟨by rw [if_neg (by omega), if_pos h], by rw [if_pos (by omega)]⟩))
            · refine .inr (.inr (.inr ⟨by rw [if_neg (by omega), if_neg (by omega)], by omega, ?_, ?_⟩))
              · by_cases ho : (x.fdiv y).natAbs % 2 = 1
                · rw [if_pos (.inr ⟨by omega, ho⟩)]; omega
                · rw [if_neg (by omega)]; omega
              · by_cases ho : (x.fdiv y).natAbs % 2 = 1
                · rw [if_pos (.inr ⟨by omega, ho⟩)]; exact .inr ⟨by omega, rfl⟩
                · rw [if_neg (by omega)]; exact .inl rfl
        have Hfit2 : Hid (badF na la nb lb = false → fitZ ((zv na la).fmod (zv nb lb) + (zv na la).fmod (zv nb lb))) := fun h => by rw [hxx, hyy]; exact Hfit.out h
        have HC := Lib.hid hcases
        clear Hfit
        generalize roundZ x y = R at *
        generalize ceilZ x y = C at *
        clear hbad hsa hsb hfw hx hy hp n1 n2 n3 n4 fcl frl hxx hyy d1 d2 d3 hp1 hq1 hr1 hs1 ht1 hl1 hh1 vp vq vr vs vt vl vh hc hrv hcases
        go_enter Tryz.func4, Tryz.ntmps4
        go_wp2_with fail
        refine (alive_true2 _).mono ?_
        rintro e w1 ⟨rfl, hb⟩
        replace Sa1 : Hid (Sl w1 Aa la ca) := Sl.below (Sa1.out.alloc _) hb
        replace Sa2 : Hid (Sl w1 Ab lb cb) := Sl.below (Sa2.out.alloc _) hb
        have Ka : Hid (Cf w1 w.heap.size na Aa la.length ca nb Ab lb.length cb) := Cf.keep (Cf.fresh (by simp) _ _ _ _ _ _ _ _ _) hb
        replace B : Hid (Below w.heap.size w w1) := below_mono (below_mono B.out (blw1 _ _)) hb
        clear hb
        have hza : w.heap.size < w1.heap.size := lt_of_cell (a := ⟨w.heap.size, 0, none⟩) Ka.out.1
        obtain ⟨qa0, qa1, qa2, qa3⟩ := Ka.out
        go_wp2_with fail
        refine (fgreat_any na nb _ _ la lb _ _ _).mono ?_
        rw [HG.out]
        rintro e w2 ⟨rfl, hb⟩
        clear qa0 qa1 qa2 qa3
        replace Sa1 : Hid (Sl w2 Aa la ca) := Sl.below Sa1.out hb
        replace Sa2 : Hid (Sl w2 Ab lb cb) := Sl.below Sa2.out hb
        replace Ka : Hid (Cf w2 w.heap.size na Aa la.length ca nb Ab lb.length cb) := Cf.keep Ka.out hb
        replace B : Hid (Below w.heap.size w w2) := below_mono B.out hb
        clear hb
        replace hza : w.heap.size < w2.heap.size := lt_of_cell (a := ⟨w.heap.size, 0, none⟩) Ka.out.1
        obtain ⟨qa0, qa1, qa2, qa3⟩ := Ka.out
        go_wp2_with fail
        refine (rfcheck_any na nb _ _ la lb _ _ _ Sa1.out Sa2.out).mono ?_
        rw [E1.out]
        rintro e w3 ⟨rfl, hb⟩
        clear qa0 qa1 qa2 qa3
        replace Sa1 : Hid (Sl w3 Aa la ca) := Sl.below Sa1.out hb
        replace Sa2 : Hid (Sl w3 Ab lb cb) := Sl.below Sa2.out hb
        replace Ka : Hid (Cf w3 w.heap.size na Aa la.length ca nb Ab lb.length cb) := Cf.keep Ka.out hb
        replace B : Hid (Below w.heap.size w w3) := below_mono B.out hb
        clear hb
        replace hza : w.heap.size < w3.heap.size := lt_of_cell (a := ⟨w.heap.size, 0, none⟩) Ka.out.1
        obtain ⟨qa0, qa1, qa2, qa3⟩ := Ka.out
        go_wp2_with fail
        refine (few_any na nb _ _ la lb _ _ _).mono ?_
        rintro e w4 ⟨rfl, hb⟩
        clear qa0 qa1 qa2 qa3
        replace Sa1 : Hid (Sl w4 Aa la ca) := Sl.below Sa1.out hb
        replace Sa2 : Hid (Sl w4 Ab lb cb) := Sl.below Sa2.out hb
        replace Ka : Hid (Cf w4 w.heap.size na Aa la.length ca nb Ab lb.length cb) := Cf.keep Ka.out hb
        replace B : Hid (Below w.heap.size w w4) := below_mono B.out hb
        clear hb
        replace hza : w.heap.size < w4.heap.size := lt_of_cell (a := ⟨w.heap.size, 0, none⟩) Ka.out.1
        obtain ⟨qa0, qa1, qa2, qa3⟩ := Ka.out
        go_wp2_with fail
        refine (ffloor_any na nb _ _ la lb _ _ _ Sa1.out Sa2.out).mono ?_
        rw [hfl.out]
        rintro e w5 ⟨A5, c5, rfl, hs5, hb⟩
        clear qa0 qa1 qa2 qa3
        replace Sa1 : Hid (Sl w5 Aa la ca) := Sl.below Sa1.out hb
        replace Sa2 : Hid (Sl w5 Ab lb cb) := Sl.below Sa2.out hb
        replace Ka : Hid (Cf w5 w.heap.size na Aa la.length ca nb Ab lb.length cb) := Cf.keep Ka.out hb
        replace B : Hid (Below w.heap.size w w5) := below_mono B.out hb
        clear hb
        (try dsimp only at hs5)
        (try dsimp only)
        have Sp : Hid (Sl w5 A5 lp c5) := hs5
        clear hs5
        replace hza : w.heap.size < w5.heap.size := lt_of_cell (a := ⟨w.heap.size, 0, none⟩) Ka.out.1
        have hkap := hza
        obtain ⟨qa0, qa1, qa2, qa3⟩ := Ka.out
        go_wp2_with fail
        refine (fceil_any na nb _ _ la lb _ _ _ (Sa1.out.alloc _) (Sa2.out.alloc _)).mono ?_
        rw [hce.out]
        rintro e w6 ⟨A6, c6, rfl, hs6, hb⟩
        clear qa0 qa1 qa2 qa3
        replace Sa1 : Hid (Sl w6 Aa la ca) := Sl.below (Sa1.out.alloc _) hb
        replace Sa2 : Hid (Sl w6 Ab lb cb) := Sl.below (Sa2.out.alloc _) hb
        replace Sp : Hid (Sl w6 A5 lp c5) := Sl.below (Sp.out.alloc _) hb
        replace Ka : Hid (Cf w6 w.heap.size na Aa la.length ca nb Ab lb.length cb) := Cf.keep (Cf.keep Ka.out (blw1 _ _)) hb
        have Kp : Hid (Cw w6 w5.heap.size np A5 lp.length c5) := Cw.keep (Cw.fresh (by simp) _ _ _ _ _) hb
        replace B : Hid (Below w.heap.size w w6) := below_mono (below_mono B.out (blw1 _ _)) hb
        clear hb
        (try dsimp only at hs6)
        (try dsimp only)
        have Sq : Hid (Sl w6 A6 lq c6) := hs6
        clear hs6
        replace hza : w.heap.size < w6.heap.size := lt_of_cell (a := ⟨w.heap.size, 0, none⟩) Ka.out.1
        have hzp : w5.heap.size < w6.heap.size := lt_of_cell (a := ⟨w5.heap.size, 0, none⟩) Kp.out.1
        have hkaq := hza
        have hkpq := hzp
        obtain ⟨qa0, qa1, qa2, qa3⟩ := Ka.out
        go_wp2_with fail
        refine (fround_any na nb _ _ la lb _ _ Hfit2.out _ (Sa1.out.alloc _) (Sa2.out.alloc _)).mono ?_
        rw [hro.out]
        rintro e w7 ⟨A7, c7, rfl, hs7, hb⟩
        clear qa0 qa1 qa2 qa3
        replace Sa1 : Hid (Sl w7 Aa la ca) := Sl.below (Sa1.out.alloc _) hb
        replace Sa2 : Hid (Sl w7 Ab lb cb) := Sl.below (Sa2.out.alloc _) hb
        replace Sp : Hid (Sl w7 A5 lp c5) := Sl.below (Sp.out.alloc _) hb
        replace Sq : Hid (Sl w7 A6 lq c6) := Sl.below (Sq.out.alloc _) hb
        replace Ka : Hid (Cf w7 w.heap.size na Aa la.length ca nb Ab lb.length cb) := Cf.keep (Cf.keep Ka.out (blw1 _ _)) hb
        replace Kp : Hid (Cw w7 w5.heap.size np A5 lp.length c5) := Cw.keep (Cw.keep Kp.out (blw1 _ _)) hb
        have Kq : Hid (Cw w7 w6.heap.size nq A6 lq.length c6) := Cw.keep (Cw.fresh (by simp) _ _ _ _ _) hb
        replace B : Hid (Below w.heap.size w w7) := below_mono (below_mono B.out (blw1 _ _)) hb
        clear hb
        (try dsimp only at hs7)
        (try dsimp only)
        have Sr : Hid (Sl w7 A7 lr c7) := hs7
        clear hs7
        replace hza : w.heap.size < w7.heap.size := lt_of_cell (a := ⟨w.heap.size, 0, none⟩) Ka.out.1
        replace hzp : w5.heap.size < w7.heap.size := lt_of_cell (a := ⟨w5.heap.size, 0, none⟩) Kp.out.1
        have hzq : w6.heap.size < w7.heap.size := lt_of_cell (a := ⟨w6.heap.size, 0, none⟩) Kq.out.1
        have hkar := hza
        have hkpr := hzp
        have hkqr := hzq
        obtain ⟨qp0, qp1⟩ := Kp.out
        go_wp2_with fail
        refine (rcheck_any np _ lp _ _ (Sp.out.alloc _)).mono ?_
        rw [E2.out]
        rintro e w8 ⟨rfl, hb⟩
        clear qp0 qp1
        replace Sa1 : Hid (Sl w8 Aa la ca) := Sl.below (Sa1.out.alloc _) hb
        replace Sa2 : Hid (Sl w8 Ab lb cb) := Sl.below (Sa2.out.alloc _) hb
        replace Sp : Hid (Sl w8 A5 lp c5) := Sl.below (Sp.out.alloc _) hb
        replace Sq : Hid (Sl w8 A6 lq c6) := Sl.below (Sq.out.alloc _) hb
        replace Sr : Hid (Sl w8 A7 lr c7) := Sl.below (Sr.out.alloc _) hb
        replace Ka : Hid (Cf w8 w.heap.size na Aa la.length ca nb Ab lb.length cb) := Cf.keep (Cf.keep Ka.out (blw1 _ _)) hb
        replace Kp : Hid (Cw w8 w5.heap.size np A5 lp.length c5) := Cw.keep (Cw.keep Kp.out (blw1 _ _)) hb
        replace Kq : Hid (Cw w8 w6.heap.size nq A6 lq.length c6) := Cw.keep (Cw.keep Kq.out (blw1 _ _)) hb
        have Kr : Hid (Cw w8 w7.heap.size nr A7 lr.length c7) := Cw.keep (Cw.fresh (by simp) _ _ _ _ _) hb
        replace B : Hid (Below w.heap.size w w8) := below_mono (below_mono B.out (blw1 _ _)) hb
        clear hb
        replace hza : w.heap.size < w8.heap.size := lt_of_cell (a := ⟨w.heap.size, 0, none⟩) Ka.out.1
        replace hzp : w5.heap.size < w8.heap.size := lt_of_cell (a := ⟨w5.heap.size, 0, none⟩) Kp.out.1
        replace hzq : w6.heap.size < w8.heap.size := lt_of_cell (a := ⟨w6.heap.size, 0, none⟩) Kq.out.1
        have hzr : w7.heap.size < w8.heap.size := lt_of_cell (a := ⟨w7.heap.size, 0, none⟩) Kr.out.1
        obtain ⟨qq0, qq1⟩ := Kq.out
        go_wp2_with fail
        refine (rcheck_any nq _ lq _ _ Sq.out).mono ?_
        rw [E3.out]
        rintro e w9 ⟨rfl, hb⟩
        clear qq0 qq1
        replace Sa1 : Hid (Sl w9 Aa la ca) := Sl.below Sa1.out hb
        replace Sa2 : Hid (Sl w9 Ab lb cb) := Sl.below Sa2.out hb
        replace Sp : Hid (Sl w9 A5 lp c5) := Sl.below Sp.out hb
        replace Sq : Hid (Sl w9 A6 lq c6) := Sl.below Sq.out hb
        replace Sr : Hid (Sl w9 A7 lr c7) := Sl.below Sr.out hb
        replace Ka : Hid (Cf w9 w.heap.size na Aa la.length ca nb Ab lb.length cb) := Cf.keep Ka.out hb
        replace Kp : Hid (Cw w9 w5.heap.size np A5 lp.length c5) := Cw.keep Kp.out hb
        replace Kq : Hid (Cw w9 w6.heap.size nq A6 lq.length c6) := Cw.keep Kq.out hb
        replace Kr : Hid (Cw w9 w7.heap.size nr A7 lr.length c7) := Cw.keep Kr.out hb
        replace B : Hid (Below w.heap.size w w9) := below_mono B.out hb
        clear hb
        replace hza : w.heap.size < w9.heap.size := lt_of_cell (a := ⟨w.heap.size, 0, none⟩) Ka.out.1
        replace hzp : w5.heap.size < w9.heap.size := lt_of_cell (a := ⟨w5.heap.size, 0, none⟩) Kp.out.1
        replace hzq : w6.heap.size < w9.heap.size := lt_of_cell (a := ⟨w6.heap.size, 0, none⟩) Kq.out.1
        replace hzr : w7.heap.size < w9.heap.size := lt_of_cell (a := ⟨w7.heap.size, 0, none⟩) Kr.out.1
        obtain ⟨qp0, qp1⟩ := Kp.out
        obtain ⟨qa0, qa1, qa2, qa3⟩ := Ka.out
        go_wp2_with fail
        refine (rmul_any np nb _ _ lp lb _ _ _ Sp.out Sa2.out).mono ?_
        rw [E4.out]
        rintro e w10 ⟨A10, c10, rfl, hs10, hb⟩
        clear qp0 qp1 qa0 qa1 qa2 qa3
        replace Sa1 : Hid (Sl w10 Aa la ca) := Sl.below Sa1.out hb
        replace Sa2 : Hid (Sl w10 Ab lb cb) := Sl.below Sa2.out hb
        replace Sp : Hid (Sl w10 A5 lp c5) := Sl.below Sp.out hb
        replace Sq : Hid (Sl w10 A6 lq c6) := Sl.below Sq.out hb
        replace Sr : Hid (Sl w10 A7 lr c7) := Sl.below Sr.out hb
        replace Ka : Hid (Cf w10 w.heap.size na Aa la.length ca nb Ab lb.length cb) := Cf.keep Ka.out hb
        replace Kp : Hid (Cw w10 w5.heap.size np A5 lp.length c5) := Cw.keep Kp.out hb
        replace Kq : Hid (Cw w10 w6.heap.size nq A6 lq.length c6) := Cw.keep Kq.out hb
        replace Kr : Hid (Cw w10 w7.heap.size nr A7 lr.length c7) := Cw.keep Kr.out hb
        replace B : Hid (Below w.heap.size w w10) := below_mono B.out hb
        clear hb
        (try dsimp only at hs10)
        (try dsimp only)
        have Sx : Hid (Sl w10 A10 ls c10) := hs10
        clear hs10
        replace hza : w.heap.size < w10.heap.size := lt_of_cell (a := ⟨w.heap.size, 0, none⟩) Ka.out.1
        replace hzp : w5.heap.size < w10.heap.size := lt_of_cell (a := ⟨w5.heap.size, 0, none⟩) Kp.out.1
        replace hzq : w6.heap.size < w10.heap.size := lt_of_cell (a := ⟨w6.heap.size, 0, none⟩) Kq.out.1
        replace hzr : w7.heap.size < w10.heap.size := lt_of_cell (a := ⟨w7.heap.size, 0, none⟩) Kr.out.1
        have hkax := hza
        have hkpx := hzp
        have hkqx := hzq
        have hkrx := hzr
        obtain ⟨qq0, qq1⟩ := Kq.out
        obtain ⟨qa0, qa1, qa2, qa3⟩ := Ka.out
        go_wp2_with fail
        refine (rmul_any nq nb _ _ lq lb _ _ _ (Sq.out.alloc _) (Sa2.out.alloc _)).mono ?_
        rw [E5.out]
        rintro e w11 ⟨A11, c11, rfl, hs11, hb⟩
        clear qq0 qq1 qa0 qa1 qa2 qa3
        replace Sa1 : Hid (Sl w11 Aa la ca) := Sl.below (Sa1.out.alloc _) hb
        replace Sa2 : Hid (Sl w11 Ab lb cb) := Sl.below (Sa2.out.alloc _) hb
        replace Sp : Hid (Sl w11 A5 lp c5) := Sl.below (Sp.out.alloc _) hb
        replace Sq : Hid (Sl w11 A6 lq c6) := Sl.below (Sq.out.alloc _) hb
        replace Sr : Hid (Sl w11 A7 lr c7) := Sl.below (Sr.out.alloc _) hb
        replace Sx : Hid (Sl w11 A10 ls c10) := Sl.below (Sx.out.alloc _) hb
        replace Ka : Hid (Cf w11 w.heap.size na Aa la.length ca nb Ab lb.length cb) := Cf.keep (Cf.keep Ka.out (blw1 _ _)) hb
        replace Kp : Hid (Cw w11 w5.heap.size np A5 lp.length c5) := Cw.keep (Cw.keep Kp.out (blw1 _ _)) hb
        replace Kq : Hid (Cw w11 w6.heap.size nq A6 lq.length c6) := Cw.keep (Cw.keep Kq.out (blw1 _ _)) hb
        replace Kr : Hid (Cw w11 w7.heap.size nr A7 lr.length c7) := Cw.keep (Cw.keep Kr.out (blw1 _ _)) hb
        have Kx : Hid (Cw w11 w10.heap.size ns A10 ls.length c10) := Cw.keep (Cw.fresh (by simp) _ _ _ _ _) hb
        replace B : Hid (Below w.heap.size w w11) := below_mono (below_mono B.out (blw1 _ _)) hb
        clear hb
        (try dsimp only at hs11)
        (try dsimp only)
        have Sy : Hid (Sl w11 A11 lt c11) := hs11
        clear hs11
        replace hza : w.heap.size < w11.heap.size := lt_of_cell (a := ⟨w.heap.size, 0, none⟩) Ka.out.1
        replace hzp : w5.heap.size < w11.heap.size := lt_of_cell (a := ⟨w5.heap.size, 0, none⟩) Kp.out.1
        replace hzq : w6.heap.size < w11.heap.size := lt_of_cell (a := ⟨w6.heap.size, 0, none⟩) Kq.out.1
        replace hzr : w7.heap.size < w11.heap.size := lt_of_cell (a := ⟨w7.heap.size, 0, none⟩) Kr.out.1
        have hzx : w10.heap.size < w11.heap.size := lt_of_cell (a := ⟨w10.heap.size, 0, none⟩) Kx.out.1
        have hkay := hza
        have hkpy := hzp
        have hkqy := hzq
        have hkry := hzr
        have hkxy := hzx
        obtain ⟨qa0, qa1, qa2, qa3⟩ := Ka.out
        obtain ⟨qx0, qx1⟩ := Kx.out
        go_wp2_with fail
        refine (rsub_any na ns _ _ la ls _ _ _ (Sa1.out.alloc _) (Sx.out.alloc _)).mono ?_
        rw [E6.out]
        rintro e w12 ⟨A12, c12, rfl, hs12, hb⟩
        clear qa0 qa1 qa2 qa3 qx0 qx1
        replace Sa1 : Hid (Sl w12 Aa la ca) := Sl.below (Sa1.out.alloc _) hb
        replace Sa2 : Hid (Sl w12 Ab lb cb) := Sl.below (Sa2.out.alloc _) hb
        replace Sp : Hid (Sl w12 A5 lp c5) := Sl.below (Sp.out.alloc _) hb
        replace Sq : Hid (Sl w12 A6 lq c6) := Sl.below (Sq.out.alloc _) hb
        replace Sr : Hid (Sl w12 A7 lr c7) := Sl.below (Sr.out.alloc _) hb
        replace Sx : Hid (Sl w12 A10 ls c10) := Sl.below (Sx.out.alloc _) hb
        replace Sy : Hid (Sl w12 A11 lt c11) := Sl.below (Sy.out.alloc _) hb
        replace Ka : Hid (Cf w12 w.heap.size na Aa la.length ca nb Ab lb.length cb) := Cf.keep (Cf.keep Ka.out (blw1 _ _)) hb
        replace Kp : Hid (Cw w12 w5.heap.size np A5 lp.length c5) := Cw.keep (Cw.keep Kp.out (blw1 _ _)) hb
        replace Kq : Hid (Cw w12 w6.heap.size nq A6 lq.length c6) := Cw.keep (Cw.keep Kq.out (blw1 _ _)) hb
        replace Kr : Hid (Cw w12 w7.heap.size nr A7 lr.length c7) := Cw.keep (Cw.keep Kr.out (blw1 _ _)) hb
        replace Kx : Hid (Cw w12 w10.heap.size ns A10 ls.length c10) := Cw.keep (Cw.keep Kx.out (blw1 _ _)) hb
        have Ky : Hid (Cw w12 w11.heap.size nt A11 lt.length c11) := Cw.keep (Cw.fresh (by simp) _ _ _ _ _) hb
        replace B : Hid (Below w.heap.size w w12) := below_mono (below_mono B.out (blw1 _ _)) hb
        clear hb
        (try dsimp only at hs12)
        (try dsimp only)
        have Su : Hid (Sl w12 A12 ll c12) := hs12
        clear hs12
        replace hza : w.heap.size < w12.heap.size := lt_of_cell (a := ⟨w.heap.size, 0, none⟩) Ka.out.1
        replace hzp : w5.heap.size < w12.heap.size := lt_of_cell (a := ⟨w5.heap.size, 0, none⟩) Kp.out.1
        replace hzq : w6.heap.size < w12.heap.size := lt_of_cell (a := ⟨w6.heap.size, 0, none⟩) Kq.out.1
        replace hzr : w7.heap.size < w12.heap.size := lt_of_cell (a := ⟨w7.heap.size, 0, none⟩) Kr.out.1
        replace hzx : w10.heap.size < w12.heap.size := lt_of_cell (a := ⟨w10.heap.size, 0, none⟩) Kx.out.1
        have hzy : w11.heap.size < w12.heap.size := lt_of_cell (a := ⟨w11.heap.size, 0, none⟩) Ky.out.1
        have hkau := hza
        have hkpu := hzp
        have hkqu := hzq
        have hkru := hzr
        have hkxu := hzx
        have hkyu := hzy
        clear Sx
        clear Kx
        obtain ⟨qy0, qy1⟩ := Ky.out
        obtain ⟨qa0, qa1, qa2, qa3⟩ := Ka.out
        go_wp2_with fail
        refine (rsub_any nt na _ _ lt la _ _ _ (Sy.out.alloc _) (Sa1.out.alloc _)).mono ?_
        rw [E7.out]
        rintro e w13 ⟨A13, c13, rfl, hs13, hb⟩
        clear qy0 qy1 qa0 qa1 qa2 qa3
        replace Sa1 : Hid (Sl w13 Aa la ca) := Sl.below (Sa1.out.alloc _) hb
        replace Sa2 : Hid (Sl w13 Ab lb cb) := Sl.below (Sa2.out.alloc _) hb
        replace Sp : Hid (Sl w13 A5 lp c5) := Sl.below (Sp.out.alloc _) hb
        replace Sq : Hid (Sl w13 A6 lq c6) := Sl.below (Sq.out.alloc _) hb
        replace Sr : Hid (Sl w13 A7 lr c7) := Sl.below (Sr.out.alloc _) hb
        replace Sy : Hid (Sl w13 A11 lt c11) := Sl.below (Sy.out.alloc _) hb
        replace Su : Hid (Sl w13 A12 ll c12) := Sl.below (Su.out.alloc _) hb
        replace Ka : Hid (Cf w13 w.heap.size na Aa la.length ca nb Ab lb.length cb) := Cf.keep (Cf.keep Ka.out (blw1 _ _)) hb
        replace Kp : Hid (Cw w13 w5.heap.size np A5 lp.length c5) := Cw.keep (Cw.keep Kp.out (blw1 _ _)) hb
        replace Kq : Hid (Cw w13 w6.heap.size nq A6 lq.length c6) := Cw.keep (Cw.keep Kq.out (blw1 _ _)) hb
        replace Kr : Hid (Cw w13 w7.heap.size nr A7 lr.length c7) := Cw.keep (Cw.keep Kr.out (blw1 _ _)) hb
        replace Ky : Hid (Cw w13 w11.heap.size nt A11 lt.length c11) := Cw.keep (Cw.keep Ky.out (blw1 _ _)) hb
        have Ku : Hid (Cw w13 w12.heap.size false A12 ll.length c12) := Cw.keep (Cw.fresh (by simp) _ _ _ _ _) hb
        replace B : Hid (Below w.heap.size w w13) := below_mono (below_mono B.out (blw1 _ _)) hb
        clear hb
        (try dsimp only at hs13)
        (try dsimp only)
        have Sv : Hid (Sl w13 A13 lh c13) := hs13
        clear hs13
        replace hza : w.heap.size < w13.heap.size := lt_of_cell (a := ⟨w.heap.size, 0, none⟩) Ka.out.1
        replace hzp : w5.heap.size < w13.heap.size := lt_of_cell (a := ⟨w5.heap.size, 0, none⟩) Kp.out.1
        replace hzq : w6.heap.size < w13.heap.size := lt_of_cell (a := ⟨w6.heap.size, 0, none⟩) Kq.out.1
        replace hzr : w7.heap.size < w13.heap.size := lt_of_cell (a := ⟨w7.heap.size, 0, none⟩) Kr.out.1
        replace hzy : w11.heap.size < w13.heap.size := lt_of_cell (a := ⟨w11.heap.size, 0, none⟩) Ky.out.1
        have hzu : w12.heap.size < w13.heap.size := lt_of_cell (a := ⟨w12.heap.size, 0, none⟩) Ku.out.1
        have hkav := hza
        have hkpv := hzp
        have hkqv := hzq
        have hkrv := hzr
        have hkyv := hzy
        have hkuv := hzu
        clear Sy
        clear Ky
        obtain ⟨qu0, qu1⟩ := Ku.out
        obtain ⟨qa0, qa1, qa2, qa3⟩ := Ka.out
        go_wp2_with fail
        refine (rcompared_any false nb _ _ ll lb _ _ _ (Su.out.alloc _) (Sa2.out.alloc _)).mono ?_
        rw [E8.out]
        rintro e w14 ⟨rfl, hb⟩
        clear qu0 qu1 qa0 qa1 qa2 qa3
        replace Sa1 : Hid (Sl w14 Aa la ca) := Sl.below (Sa1.out.alloc _) hb
        replace Sa2 : Hid (Sl w14 Ab lb cb) := Sl.below (Sa2.out.alloc _) hb
        replace Sp : Hid (Sl w14 A5 lp c5) := Sl.below (Sp.out.alloc _) hb
        replace Sq : Hid (Sl w14 A6 lq c6) := Sl.below (Sq.out.alloc _) hb
        replace Sr : Hid (Sl w14 A7 lr c7) := Sl.below (Sr.out.alloc _) hb
        replace Su : Hid (Sl w14 A12 ll c12) := Sl.below (Su.out.alloc _) hb
        replace Sv : Hid (Sl w14 A13 lh c13) := Sl.below (Sv.out.alloc _) hb
        replace Ka : Hid (Cf w14 w.heap.size na Aa la.length ca nb Ab lb.length cb) := Cf.keep (Cf.keep Ka.out (blw1 _ _)) hb
        replace Kp : Hid (Cw w14 w5.heap.size np A5 lp.length c5) := Cw.keep (Cw.keep Kp.out (blw1 _ _)) hb
        replace Kq : Hid (Cw w14 w6.heap.size nq A6 lq.length c6) := Cw.keep (Cw.keep Kq.out (blw1 _ _)) hb
        replace Kr : Hid (Cw w14 w7.heap.size nr A7 lr.length c7) := Cw.keep (Cw.keep Kr.out (blw1 _ _)) hb
        replace Ku : Hid (Cw w14 w12.heap.size false A12 ll.length c12) := Cw.keep (Cw.keep Ku.out (blw1 _ _)) hb
        have Kv : Hid (Cw w14 w13.heap.size false A13 lh.length c13) := Cw.keep (Cw.fresh (by simp) _ _ _ _ _) hb
        replace B : Hid (Below w.heap.size w w14) := below_mono (below_mono B.out (blw1 _ _)) hb
        clear hb
        replace hza : w.heap.size < w14.heap.size := lt_of_cell (a := ⟨w.heap.size, 0, none⟩) Ka.out.1
        replace hzp : w5.heap.size < w14.heap.size := lt_of_cell (a := ⟨w5.heap.size, 0, none⟩) Kp.out.1
        replace hzq : w6.heap.size < w14.heap.size := lt_of_cell (a := ⟨w6.heap.size, 0, none⟩) Kq.out.1
        replace hzr : w7.heap.size < w14.heap.size := lt_of_cell (a := ⟨w7.heap.size, 0, none⟩) Kr.out.1
        replace hzu : w12.heap.size < w14.heap.size := lt_of_cell (a := ⟨w12.heap.size, 0, none⟩) Ku.out.1
        have hzv : w13.heap.size < w14.heap.size := lt_of_cell (a := ⟨w13.heap.size, 0, none⟩) Kv.out.1
        obtain ⟨qu0, qu1⟩ := Ku.out
        obtain ⟨qa0, qa1, qa2, qa3⟩ := Ka.out
        obtain ⟨qv0, qv1⟩ := Kv.out
        go_wp2_with fail
        refine (rcompared_any false nb _ _ lh lb _ _ _ Sv.out Sa2.out).mono ?_
        rw [E9.out]
        rintro e w15 ⟨rfl, hb⟩
        clear qu0 qu1 qa0 qa1 qa2 qa3 qv0 qv1
        replace Sa1 : Hid (Sl w15 Aa la ca) := Sl.below Sa1.out hb
        replace Sa2 : Hid (Sl w15 Ab lb cb) := Sl.below Sa2.out hb
        replace Sp : Hid (Sl w15 A5 lp c5) := Sl.below Sp.out hb
        replace Sq : Hid (Sl w15 A6 lq c6) := Sl.below Sq.out hb
        replace Sr : Hid (Sl w15 A7 lr c7) := Sl.below Sr.out hb
        replace Su : Hid (Sl w15 A12 ll c12) := Sl.below Su.out hb
        replace Sv : Hid (Sl w15 A13 lh c13) := Sl.below Sv.out hb
        replace Ka : Hid (Cf w15 w.heap.size na Aa la.length ca nb Ab lb.length cb) := Cf.keep Ka.out hb
        replace Kp : Hid (Cw w15 w5.heap.size np A5 lp.length c5) := Cw.keep Kp.out hb
        replace Kq : Hid (Cw w15 w6.heap.size nq A6 lq.length c6) := Cw.keep Kq.out hb
        replace Kr : Hid (Cw w15 w7.heap.size nr A7 lr.length c7) := Cw.keep Kr.out hb
        replace Ku : Hid (Cw w15 w12.heap.size false A12 ll.length c12) := Cw.keep Ku.out hb
        replace Kv : Hid (Cw w15 w13.heap.size false A13 lh.length c13) := Cw.keep Kv.out hb
        replace B : Hid (Below w.heap.size w w15) := below_mono B.out hb
        clear hb
        replace hza : w.heap.size < w15.heap.size := lt_of_cell (a := ⟨w.heap.size, 0, none⟩) Ka.out.1
        replace hzp : w5.heap.size < w15.heap.size := lt_of_cell (a := ⟨w5.heap.size, 0, none⟩) Kp.out.1
        replace hzq : w6.heap.size < w15.heap.size := lt_of_cell (a := ⟨w6.heap.size, 0, none⟩) Kq.out.1
        replace hzr : w7.heap.size < w15.heap.size := lt_of_cell (a := ⟨w7.heap.size, 0, none⟩) Kr.out.1
        replace hzu : w12.heap.size < w15.heap.size := lt_of_cell (a := ⟨w12.heap.size, 0, none⟩) Ku.out.1
        replace hzv : w13.heap.size < w15.heap.size := lt_of_cell (a := ⟨w13.heap.size, 0, none⟩) Kv.out.1
        obtain ⟨qu0, qu1⟩ := Ku.out
        obtain ⟨qv0, qv1⟩ := Kv.out
        go_wp2_with fail
        refine (rcompared_any false false _ _ ll lh _ _ _ Su.out Sv.out).mono ?_
        rw [E10.out]
        rintro e w16 ⟨rfl, hb⟩
        clear qu0 qu1 qv0 qv1
        replace Sa1 : Hid (Sl w16 Aa la ca) := Sl.below Sa1.out hb
        replace Sa2 : Hid (Sl w16 Ab lb cb) := Sl.below Sa2.out hb
        replace Sp : Hid (Sl w16 A5 lp c5) := Sl.below Sp.out hb
        replace Sq : Hid (Sl w16 A6 lq c6) := Sl.below Sq.out hb
        replace Sr : Hid (Sl w16 A7 lr c7) := Sl.below Sr.out hb
        replace Su : Hid (Sl w16 A12 ll c12) := Sl.below Su.out hb
        replace Sv : Hid (Sl w16 A13 lh c13) := Sl.below Sv.out hb
        replace Ka : Hid (Cf w16 w.heap.size na Aa la.length ca nb Ab lb.length cb) := Cf.keep Ka.out hb
        replace Kp : Hid (Cw w16 w5.heap.size np A5 lp.length c5) := Cw.keep Kp.out hb
        replace Kq : Hid (Cw w16 w6.heap.size nq A6 lq.length c6) := Cw.keep Kq.out hb
        replace Kr : Hid (Cw w16 w7.heap.size nr A7 lr.length c7) := Cw.keep Kr.out hb
        replace Ku : Hid (Cw w16 w12.heap.size false A12 ll.length c12) := Cw.keep Ku.out hb
        replace Kv : Hid (Cw w16 w13.heap.size false A13 lh.length c13) := Cw.keep Kv.out hb
        replace B : Hid (Below w.heap.size w w16) := below_mono B.out hb
        clear hb
        replace hza : w.heap.size < w16.heap.size := lt_of_cell (a := ⟨w.heap.size, 0, none⟩) Ka.out.1
        replace hzp : w5.heap.size < w16.heap.size := lt_of_cell (a := ⟨w5.heap.size, 0, none⟩) Kp.out.1
        replace hzq : w6.heap.size < w16.heap.size := lt_of_cell (a := ⟨w6.heap.size, 0, none⟩) Kq.out.1
        replace hzr : w7.heap.size < w16.heap.size := lt_of_cell (a := ⟨w7.heap.size, 0, none⟩) Kr.out.1
        replace hzu : w12.heap.size < w16.heap.size := lt_of_cell (a := ⟨w12.heap.size, 0, none⟩) Ku.out.1
        replace hzv : w13.heap.size < w16.heap.size := lt_of_cell (a := ⟨w13.heap.size, 0, none⟩) Kv.out.1
        clear Su
        clear Sv
        clear Sa1
        clear Sa2
        clear Ku
        clear Kv
        clear Ka
        obtain ⟨qp0, qp1⟩ := Kp.out
        obtain ⟨qq0, qq1⟩ := Kq.out
        obtain ⟨qr0, qr1⟩ := Kr.out
        go_upto_region 16 with fail
        rcases HC.out with ⟨h0, rfl, h1, h2⟩ | ⟨rfl, h1⟩ | ⟨rfl, h1⟩ | ⟨rfl, h1, h2, h3⟩
        · have X1 : Hid (sameB nr lr np lp = true) := by rw [Hid, Srp.out]; exact decide_eq_true h1
          have X2 : Hid (sameB np lp nq lq = true) := by rw [Hid, Spq.out]; exact decide_eq_true h2
          by_cases hl : 0 < lr.length
          · have hz : ((lr.length : Int) == 0) = false := by rw [beq_eq_false_iff_ne]; omega
            have hk1 : lr[0]?.getD 0 < 4294967296 := getD_lim Sr.out.lim 0
            have hpar := Hpar.out
            obtain ⟨bq, oq, rfl, hcell⟩ := Sr.out.rd.at_ (k := 0) hl
            rw [Nat.add_zero] at hcell
            generalize hk0 : lr[0]?.getD 0 = k0 at *
            clear hk0 hpar Hpar HC h1 h2 h0
            go_wp2_with fail
            refine (same_any np nq _ _ lp lq _ _ _ Sp.out Sq.out).mono ?_
            rw [X2.out]
            rintro e w17 ⟨rfl, hb⟩
            clear qp0 qp1 qq0 qq1 qr0 qr1
            replace Sp : Hid (Sl w17 A5 lp c5) := Sl.below Sp.out hb
            replace Sq : Hid (Sl w17 A6 lq c6) := Sl.below Sq.out hb
            replace Sr : Hid (Sl w17 (some ⟨bq, oq, none⟩) lr c7) := Sl.below Sr.out hb
            replace Kp : Hid (Cw w17 w5.heap.size np A5 lp.length c5) := Cw.keep Kp.out hb
            replace Kq : Hid (Cw w17 w6.heap.size nq A6 lq.length c6) := Cw.keep Kq.out hb
            replace Kr : Hid (Cw w17 w7.heap.size nr (some ⟨bq, oq, none⟩) lr.length c7) := Cw.keep Kr.out hb
            replace B : Hid (Below w.heap.size w w17) := below_mono B.out hb
            clear hb
            replace hzp : w5.heap.size < w17.heap.size := lt_of_cell (a := ⟨w5.heap.size, 0, none⟩) Kp.out.1
            replace hzq : w6.heap.size < w17.heap.size := lt_of_cell (a := ⟨w6.heap.size, 0, none⟩) Kq.out.1
            replace hzr : w7.heap.size < w17.heap.size := lt_of_cell (a := ⟨w7.heap.size, 0, none⟩) Kr.out.1
            obtain ⟨qp0, qp1⟩ := Kp.out
            obtain ⟨qq0, qq1⟩ := Kq.out
            obtain ⟨qr0, qr1⟩ := Kr.out
            go_wp2_with fail
            refine (same_any nr np _ _ lr lp _ _ _ Sr.out Sp.out).mono ?_
            rw [X1.out]
            rintro e w18 ⟨rfl, hb⟩
            clear qp0 qp1 qq0 qq1 qr0 qr1
            replace Sp : Hid (Sl w18 A5 lp c5) := Sl.below Sp.out hb
            replace Sq : Hid (Sl w18 A6 lq c6) := Sl.below Sq.out hb
            replace Sr : Hid (Sl w18 (some ⟨bq, oq, none⟩) lr c7) := Sl.below Sr.out hb
            replace Kp : Hid (Cw w18 w5.heap.size np A5 lp.length c5) := Cw.keep Kp.out hb
            replace Kq : Hid (Cw w18 w6.heap.size nq A6 lq.length c6) := Cw.keep Kq.out hb
            replace Kr : Hid (Cw w18 w7.heap.size nr (some ⟨bq, oq, none⟩) lr.length c7) := Cw.keep Kr.out hb
            replace B : Hid (Below w.heap.size w w18) := below_mono B.out hb
            clear hb
            replace hzp : w5.heap.size < w18.heap.size := lt_of_cell (a := ⟨w5.heap.size, 0, none⟩) Kp.out.1
            replace hzq : w6.heap.size < w18.heap.size := lt_of_cell (a := ⟨w6.heap.size, 0, none⟩) Kq.out.1
            replace hzr : w7.heap.size < w18.heap.size := lt_of_cell (a := ⟨w7.heap.size, 0, none⟩) Kr.out.1
            go_wp2
            go_ret
            exact ⟨rfl, B.out⟩
          · have hz : ((lr.length : Int) == 0) = true := by rw [beq_iff_eq]; omega
            clear Hpar HC h1 h2 h0
            go_wp2_with fail
            refine (same_any np nq _ _ lp lq _ _ _ Sp.out Sq.out).mono ?_
            rw [X2.out]
            rintro e w17 ⟨rfl, hb⟩
            clear qp0 qp1 qq0 qq1 qr0 qr1
            replace Sp : Hid (Sl w17 A5 lp c5) := Sl.below Sp.out hb
            replace Sq : Hid (Sl w17 A6 lq c6) := Sl.below Sq.out hb
            replace Sr : Hid (Sl w17 A7 lr c7) := Sl.below Sr.out hb
            replace Kp : Hid (Cw w17 w5.heap.size np A5 lp.length c5) := Cw.keep Kp.out hb
            replace Kq : Hid (Cw w17 w6.heap.size nq A6 lq.length c6) := Cw.keep Kq.out hb
            replace Kr : Hid (Cw w17 w7.heap.size nr A7 lr.length c7) := Cw.keep Kr.out hb
            replace B : Hid (Below w.heap.size w w17) := below_mono B.out hb
            clear hb
            replace hzp : w5.heap.size < w17.heap.size := lt_of_cell (a := ⟨w5.heap.size, 0, none⟩) Kp.out.1
            replace hzq : w6.heap.size < w17.heap.size := lt_of_cell (a := ⟨w6.heap.size, 0, none⟩) Kq.out.1
            replace hzr : w7.heap.size < w17.heap.size := lt_of_cell (a := ⟨w7.heap.size, 0, none⟩) Kr.out.1
            obtain ⟨qp0, qp1⟩ := Kp.out
            obtain ⟨qq0, qq1⟩ := Kq.out
            obtain ⟨qr0, qr1⟩ := Kr.out
            go_wp2_with fail
            refine (same_any nr np _ _ lr lp _ _ _ Sr.out Sp.out).mono ?_
            rw [X1.out]
            rintro e w18 ⟨rfl, hb⟩
            clear qp0 qp1 qq0 qq1 qr0 qr1
            replace Sp : Hid (Sl w18 A5 lp c5) := Sl.below Sp.out hb
            replace Sq : Hid (Sl w18 A6 lq c6) := Sl.below Sq.out hb
            replace Sr : Hid (Sl w18 A7 lr c7) := Sl.below Sr.out hb
            replace Kp : Hid (Cw w18 w5.heap.size np A5 lp.length c5) := Cw.keep Kp.out hb
            replace Kq : Hid (Cw w18 w6.heap.size nq A6 lq.length c6) := Cw.keep Kq.out hb
            replace Kr : Hid (Cw w18 w7.heap.size nr A7 lr.length c7) := Cw.keep Kr.out hb
            replace B : Hid (Below w.heap.size w w18) := below_mono B.out hb
            clear hb
            replace hzp : w5.heap.size < w18.heap.size := lt_of_cell (a := ⟨w5.heap.size, 0, none⟩) Kp.out.1
            replace hzq : w6.heap.size < w18.heap.size := lt_of_cell (a := ⟨w6.heap.size, 0, none⟩) Kq.out.1
            replace hzr : w7.heap.size < w18.heap.size := lt_of_cell (a := ⟨w7.heap.size, 0, none⟩) Kr.out.1
            go_wp2
            go_ret
            exact ⟨rfl, B.out⟩
        · have X1 : Hid (sameB nr lr np lp = true) := by rw [Hid, Srp.out]; exact decide_eq_true h1
          clear Hpar HC h1
          go_wp2_with fail
          refine (same_any nr np _ _ lr lp _ _ _ Sr.out Sp.out).mono ?_
          rw [X1.out]
          rintro e w17 ⟨rfl, hb⟩
          clear qp0 qp1 qq0 qq1 qr0 qr1
          replace Sp : Hid (Sl w17 A5 lp c5) := Sl.below Sp.out hb
          replace Sq : Hid (Sl w17 A6 lq c6) := Sl.below Sq.out hb
          replace Sr : Hid (Sl w17 A7 lr c7) := Sl.below Sr.out hb
          replace Kp : Hid (Cw w17 w5.heap.size np A5 lp.length c5) := Cw.keep Kp.out hb
          replace Kq : Hid (Cw w17 w6.heap.size nq A6 lq.length c6) := Cw.keep Kq.out hb
          replace Kr : Hid (Cw w17 w7.heap.size nr A7 lr.length c7) := Cw.keep Kr.out hb
          replace B : Hid (Below w.heap.size w w17) := below_mono B.out hb
          clear hb
          replace hzp : w5.heap.size < w17.heap.size := lt_of_cell (a := ⟨w5.heap.size, 0, none⟩) Kp.out.1
          replace hzq : w6.heap.size < w17.heap.size := lt_of_cell (a := ⟨w6.heap.size, 0, none⟩) Kq.out.1
          replace hzr : w7.heap.size < w17.heap.size := lt_of_cell (a := ⟨w7.heap.size, 0, none⟩) Kr.out.1
          go_wp2
          go_ret
          exact ⟨rfl, B.out⟩
        · have X1 : Hid (sameB nr lr nq lq = true) := by rw [Hid, Srq.out]; exact decide_eq_true h1
          clear Hpar HC h1
          go_wp2_with fail
          refine (same_any nr nq _ _ lr lq _ _ _ Sr.out Sq.out).mono ?_
          rw [X1.out]
          rintro e w17 ⟨rfl, hb⟩
          clear qp0 qp1 qq0 qq1 qr0 qr1
          replace Sp : Hid (Sl w17 A5 lp c5) := Sl.below Sp.out hb
          replace Sq : Hid (Sl w17 A6 lq c6) := Sl.below Sq.out hb
          replace Sr : Hid (Sl w17 A7 lr c7) := Sl.below Sr.out hb
          replace Kp : Hid (Cw w17 w5.heap.size np A5 lp.length c5) := Cw.keep Kp.out hb
          replace Kq : Hid (Cw w17 w6.heap.size nq A6 lq.length c6) := Cw.keep Kq.out hb
          replace Kr : Hid (Cw w17 w7.heap.size nr A7 lr.length c7) := Cw.keep Kr.out hb
          replace B : Hid (Below w.heap.size w w17) := below_mono B.out hb
          clear hb
          replace hzp : w5.heap.size < w17.heap.size := lt_of_cell (a := ⟨w5.heap.size, 0, none⟩) Kp.out.1
          replace hzq : w6.heap.size < w17.heap.size := lt_of_cell (a := ⟨w6.heap.size, 0, none⟩) Kq.out.1
          replace hzr : w7.heap.size < w17.heap.size := lt_of_cell (a := ⟨w7.heap.size, 0, none⟩) Kr.out.1
          go_wp2
          go_ret
          exact ⟨rfl, B.out⟩
        · have X2 : Hid (sameB np lp nq lq = false) := by rw [Hid, Spq.out]; exact decide_eq_false h1
          rcases h3 with h3 | ⟨h3, h4⟩
          · have X1 : Hid (sameB nr lr np lp = true) := by rw [Hid, Srp.out]; exact decide_eq_true h3
            by_cases hl : 0 < lr.length
            · have hz : ((lr.length : Int) == 0) = false := by rw [beq_eq_false_iff_ne]; omega
              have hk1 : lr[0]?.getD 0 < 4294967296 := getD_lim Sr.out.lim 0
              have hpar := Hpar.out
              obtain ⟨bq, oq, rfl, hcell⟩ := Sr.out.rd.at_ (k := 0) hl
              rw [Nat.add_zero] at hcell
              generalize hk0 : lr[0]?.getD 0 = k0 at *
              have hbit : ((k0 : Int) % 2 == 0) = true := by rw [beq_iff_eq]; omega
              clear hk0 hpar Hpar HC h1 h2 h3
              go_wp2_with fail
              refine (same_any np nq _ _ lp lq _ _ _ Sp.out Sq.out).mono ?_
              rw [X2.out]
              rintro e w17 ⟨rfl, hb⟩
              clear qp0 qp1 qq0 qq1 qr0 qr1
              replace Sp : Hid (Sl w17 A5 lp c5) := Sl.below Sp.out hb
              replace Sq : Hid (Sl w17 A6 lq c6) := Sl.below Sq.out hb
              replace Sr : Hid (Sl w17 (some ⟨bq, oq, none⟩) lr c7) := Sl.below Sr.out hb
              replace Kp : Hid (Cw w17 w5.heap.size np A5 lp.length c5) := Cw.keep Kp.out hb
              replace Kq : Hid (Cw w17 w6.heap.size nq A6 lq.length c6) := Cw.keep Kq.out hb
              replace Kr : Hid (Cw w17 w7.heap.size nr (some ⟨bq, oq, none⟩) lr.length c7) := Cw.keep Kr.out hb
              replace B : Hid (Below w.heap.size w w17) := below_mono B.out hb
              clear hb
              replace hzp : w5.heap.size < w17.heap.size := lt_of_cell (a := ⟨w5.heap.size, 0, none⟩) Kp.out.1
              replace hzq : w6.heap.size < w17.heap.size := lt_of_cell (a := ⟨w6.heap.size, 0, none⟩) Kq.out.1
              replace hzr : w7.heap.size < w17.heap.size := lt_of_cell (a := ⟨w7.heap.size, 0, none⟩) Kr.out.1
              obtain ⟨qp0, qp1⟩ := Kp.out
              obtain ⟨qq0, qq1⟩ := Kq.out
              obtain ⟨qr0, qr1⟩ := Kr.out
              go_wp2_with fail
              refine (same_any nr np _ _ lr lp _ _ _ Sr.out Sp.out).mono ?_
              rw [X1.out]
              rintro e w18 ⟨rfl, hb⟩
              clear qp0 qp1 qq0 qq1 qr0 qr1
              replace Sp : Hid (Sl w18 A5 lp c5) := Sl.below Sp.out hb
              replace Sq : Hid (Sl w18 A6 lq c6) := Sl.below Sq.out hb
              replace Sr : Hid (Sl w18 (some ⟨bq, oq, none⟩) lr c7) := Sl.below Sr.out hb
              replace Kp : Hid (Cw w18 w5.heap.size np A5 lp.length c5) := Cw.keep Kp.out hb
              replace Kq : Hid (Cw w18 w6.heap.size nq A6 lq.length c6) := Cw.keep Kq.out hb
              replace Kr : Hid (Cw w18 w7.heap.size nr (some ⟨bq, oq, none⟩) lr.length c7) := Cw.keep Kr.out hb
              replace B : Hid (Below w.heap.size w w18) := below_mono B.out hb
              clear hb
              replace hzp : w5.heap.size < w18.heap.size := lt_of_cell (a := ⟨w5.heap.size, 0, none⟩) Kp.out.1
              replace hzq : w6.heap.size < w18.heap.size := lt_of_cell (a := ⟨w6.heap.size, 0, none⟩) Kq.out.1
              replace hzr : w7.heap.size < w18.heap.size := lt_of_cell (a := ⟨w7.heap.size, 0, none⟩) Kr.out.1
              go_wp2
              go_ret
              exact ⟨rfl, B.out⟩
            · have hz : ((lr.length : Int) == 0) = true := by rw [beq_iff_eq]; omega
              clear Hpar HC h1 h2 h3
              go_wp2_with fail
              refine (same_any np nq _ _ lp lq _ _ _ Sp.out Sq.out).mono ?_
              rw [X2.out]
              rintro e w17 ⟨rfl, hb⟩
              clear qp0 qp1 qq0 qq1 qr0 qr1
              replace Sp : Hid (Sl w17 A5 lp c5) := Sl.below Sp.out hb
              replace Sq : Hid (Sl w17 A6 lq c6) := Sl.below Sq.out hb
              replace Sr : Hid (Sl w17 A7 lr c7) := Sl.below Sr.out hb
              replace Kp : Hid (Cw w17 w5.heap.size np A5 lp.length c5) := Cw.keep Kp.out hb
              replace Kq : Hid (Cw w17 w6.heap.size nq A6 lq.length c6) := Cw.keep Kq.out hb
              replace Kr : Hid (Cw w17 w7.heap.size nr A7 lr.length c7) := Cw.keep Kr.out hb
              replace B : Hid (Below w.heap.size w w17) := below_mono B.out hb
              clear hb
              replace hzp : w5.heap.size < w17.heap.size := lt_of_cell (a := ⟨w5.heap.size, 0, none⟩) Kp.out.1
              replace hzq : w6.heap.size < w17.heap.size := lt_of_cell (a := ⟨w6.heap.size, 0, none⟩) Kq.out.1
              replace hzr : w7.heap.size < w17.heap.size := lt_of_cell (a := ⟨w7.heap.size, 0, none⟩) Kr.out.1
              obtain ⟨qp0, qp1⟩ := Kp.out
              obtain ⟨qq0, qq1⟩ := Kq.out
              obtain ⟨qr0, qr1⟩ := Kr.out
              go_wp2_with fail
              refine (same_any nr np _ _ lr lp _ _ _ Sr.out Sp.out).mono ?_
              rw [X1.out]
              rintro e w18 ⟨rfl, hb⟩
              clear qp0 qp1 qq0 qq1 qr0 qr1
              replace Sp : Hid (Sl w18 A5 lp c5) := Sl.below Sp.out hb
              replace Sq : Hid (Sl w18 A6 lq c6) := Sl.below Sq.out hb
              replace Sr : Hid (Sl w18 A7 lr c7) := Sl.below Sr.out hb
              replace Kp : Hid (Cw w18 w5.heap.size np A5 lp.length c5) := Cw.keep Kp.out hb
              replace Kq : Hid (Cw w18 w6.heap.size nq A6 lq.length c6) := Cw.keep Kq.out hb
              replace Kr : Hid (Cw w18 w7.heap.size nr A7 lr.length c7) := Cw.keep Kr.out hb
              replace B : Hid (Below w.heap.size w w18) := below_mono B.out hb
              clear hb
              replace hzp : w5.heap.size < w18.heap.size := lt_of_cell (a := ⟨w5.heap.size, 0, none⟩) Kp.out.1
              replace hzq : w6.heap.size < w18.heap.size := lt_of_cell (a := ⟨w6.heap.size, 0, none⟩) Kq.out.1
              replace hzr : w7.heap.size < w18.heap.size := lt_of_cell (a := ⟨w7.heap.size, 0, none⟩) Kr.out.1
              go_wp2
              go_ret
              exact ⟨rfl, B.out⟩
          · have X1 : Hid (sameB nr lr np lp = false) := by rw [Hid, Srp.out]; exact decide_eq_false h3
            have X3 : Hid (sameB nr lr nq lq = true) := by rw [Hid, Srq.out]; exact decide_eq_true h4
            clear h4
            by_cases hl : 0 < lr.length
            · have hz : ((lr.length : Int) == 0) = false := by rw [beq_eq_false_iff_ne]; omega
              have hk1 : lr[0]?.getD 0 < 4294967296 := getD_lim Sr.out.lim 0
              have hpar := Hpar.out
              obtain ⟨bq, oq, rfl, hcell⟩ := Sr.out.rd.at_ (k := 0) hl
              rw [Nat.add_zero] at hcell
              generalize hk0 : lr[0]?.getD 0 = k0 at *
              have hbit : ((k0 : Int) % 2 == 0) = true := by rw [beq_iff_eq]; omega
              clear hk0 hpar Hpar HC h1 h2 h3
              go_wp2_with fail
              refine (same_any np nq _ _ lp lq _ _ _ Sp.out Sq.out).mono ?_
              rw [X2.out]
              rintro e w17 ⟨rfl, hb⟩
              clear qp0 qp1 qq0 qq1 qr0 qr1
              replace Sp : Hid (Sl w17 A5 lp c5) := Sl.below Sp.out hb
              replace Sq : Hid (Sl w17 A6 lq c6) := Sl.below Sq.out hb
              replace Sr : Hid (Sl w17 (some ⟨bq, oq, none⟩) lr c7) := Sl.below Sr.out hb
              replace Kp : Hid (Cw w17 w5.heap.size np A5 lp.length c5) := Cw.keep Kp.out hb
              replace Kq : Hid (Cw w17 w6.heap.size nq A6 lq.length c6) := Cw.keep Kq.out hb
              replace Kr : Hid (Cw w17 w7.heap.size nr (some ⟨bq, oq, none⟩) lr.length c7) := Cw.keep Kr.out hb
              replace B : Hid (Below w.heap.size w w17) := below_mono B.out hb
              clear hb
              replace hzp : w5.heap.size < w17.heap.size := lt_of_cell (a := ⟨w5.heap.size, 0, none⟩) Kp.out.1
              replace hzq : w6.heap.size < w17.heap.size := lt_of_cell (a := ⟨w6.heap.size, 0, none⟩) Kq.out.1
              replace hzr : w7.heap.size < w17.heap.size := lt_of_cell (a := ⟨w7.heap.size, 0, none⟩) Kr.out.1
              obtain ⟨qp0, qp1⟩ := Kp.out
              obtain ⟨qq0, qq1⟩ := Kq.out
              obtain ⟨qr0, qr1⟩ := Kr.out
              go_wp2_with fail
              refine (same_any nr np _ _ lr lp _ _ _ Sr.out Sp.out).mono ?_
              rw [X1.out]
              rintro e w18 ⟨rfl, hb⟩
              clear qp0 qp1 qq0 qq1 qr0 qr1
              replace Sp : Hid (Sl w18 A5 lp c5) := Sl.below Sp.out hb
              replace Sq : Hid (Sl w18 A6 lq c6) := Sl.below Sq.out hb
              replace Sr : Hid (Sl w18 (some ⟨bq, oq, none⟩) lr c7) := Sl.below Sr.out hb
              replace Kp : Hid (Cw w18 w5.heap.size np A5 lp.length c5) := Cw.keep Kp.out hb
              replace Kq : Hid (Cw w18 w6.heap.size nq A6 lq.length c6) := Cw.keep Kq.out hb
              replace Kr : Hid (Cw w18 w7.heap.size nr (some ⟨bq, oq, none⟩) lr.length c7) := Cw.keep Kr.out hb
              replace B : Hid (Below w.heap.size w w18) := below_mono B.out hb
              clear hb
              replace hzp : w5.heap.size < w18.heap.size := lt_of_cell (a := ⟨w5.heap.size, 0, none⟩) Kp.out.1
              replace hzq : w6.heap.size < w18.heap.size := lt_of_cell (a := ⟨w6.heap.size, 0, none⟩) Kq.out.1
              replace hzr : w7.heap.size < w18.heap.size := lt_of_cell (a := ⟨w7.heap.size, 0, none⟩) Kr.out.1
              obtain ⟨qp0, qp1⟩ := Kp.out
              obtain ⟨qq0, qq1⟩ := Kq.out
              obtain ⟨qr0, qr1⟩ := Kr.out
              go_wp2_with fail
              refine (same_any nr nq _ _ lr lq _ _ _ Sr.out Sq.out).mono ?_
              rw [X3.out]
              rintro e w19 ⟨rfl, hb⟩
              clear qp0 qp1 qq0 qq1 qr0 qr1
              replace Sp : Hid (Sl w19 A5 lp c5) := Sl.below Sp.out hb
              replace Sq : Hid (Sl w19 A6 lq c6) := Sl.below Sq.out hb
              replace Sr : Hid (Sl w19 (some ⟨bq, oq, none⟩) lr c7) := Sl.below Sr.out hb
              replace Kp : Hid (Cw w19 w5.heap.size np A5 lp.length c5) := Cw.keep Kp.out hb
              replace Kq : Hid (Cw w19 w6.heap.size nq A6 lq.length c6) := Cw.keep Kq.out hb
              replace Kr : Hid (Cw w19 w7.heap.size nr (some ⟨bq, oq, none⟩) lr.length c7) := Cw.keep Kr.out hb
              replace B : Hid (Below w.heap.size w w19) := below_mono B.out hb
              clear hb
              replace hzp : w5.heap.size < w19.heap.size := lt_of_cell (a := ⟨w5.heap.size, 0, none⟩) Kp.out.1
              replace hzq : w6.heap.size < w19.heap.size := lt_of_cell (a := ⟨w6.heap.size, 0, none⟩) Kq.out.1
              replace hzr : w7.heap.size < w19.heap.size := lt_of_cell (a := ⟨w7.heap.size, 0, none⟩) Kr.out.1
              go_wp2
              go_ret
              exact ⟨rfl, B.out⟩
            · have hz : ((lr.length : Int) == 0) = true := by rw [beq_iff_eq]; omega
              clear Hpar HC h1 h2 h3
              go_wp2_with fail
              refine (same_any np nq _ _ lp lq _ _ _ Sp.out Sq.out).mono ?_
              rw [X2.out]
              rintro e w17 ⟨rfl, hb⟩
              clear qp0 qp1 qq0 qq1 qr0 qr1
              replace Sp : Hid (Sl w17 A5 lp c5) := Sl.below Sp.out hb
              replace Sq : Hid (Sl w17 A6 lq c6) := Sl.below Sq.out hb
              replace Sr : Hid (Sl w17 A7 lr c7) := Sl.below Sr.out hb
              replace Kp : Hid (Cw w17 w5.heap.size np A5 lp.length c5) := Cw.keep Kp.out hb
              replace Kq : Hid (Cw w17 w6.heap.size nq A6 lq.length c6) := Cw.keep Kq.out hb
              replace Kr : Hid (Cw w17 w7.heap.size nr A7 lr.length c7) := Cw.keep Kr.out hb
              replace B : Hid (Below w.heap.size w w17) := below_mono B.out hb
              clear hb
              replace hzp : w5.heap.size < w17.heap.size := lt_of_cell (a := ⟨w5.heap.size, 0, none⟩) Kp.out.1
              replace hzq : w6.heap.size < w17.heap.size := lt_of_cell (a := ⟨w6.heap.size, 0, none⟩) Kq.out.1
              replace hzr : w7.heap.size < w17.heap.size := lt_of_cell (a := ⟨w7.heap.size, 0, none⟩) Kr.out.1
              obtain ⟨qp0, qp1⟩ := Kp.out
              obtain ⟨qq0, qq1⟩ := Kq.out
              obtain ⟨qr0, qr1⟩ := Kr.out
              go_wp2_with fail
              refine (same_any nr np _ _ lr lp _ _ _ Sr.out Sp.out).mono ?_
              rw [X1.out]
              rintro e w18 ⟨rfl, hb⟩
              clear qp0 qp1 qq0 qq1 qr0 qr1
              replace Sp : Hid (Sl w18 A5 lp c5) := Sl.below Sp.out hb
              replace Sq : Hid (Sl w18 A6 lq c6) := Sl.below Sq.out hb
              replace Sr : Hid (Sl w18 A7 lr c7) := Sl.below Sr.out hb
              replace Kp : Hid (Cw w18 w5.heap.size np A5 lp.length c5) := Cw.keep Kp.out hb
              replace Kq : Hid (Cw w18 w6.heap.size nq A6 lq.length c6) := Cw.keep Kq.out hb
              replace Kr : Hid (Cw w18 w7.heap.size nr A7 lr.length c7) := Cw.keep Kr.out hb
              replace B : Hid (Below w.heap.size w w18) := below_mono B.out hb
              clear hb
              replace hzp : w5.heap.size < w18.heap.size := lt_of_cell (a := ⟨w5.heap.size, 0, none⟩) Kp.out.1
              replace hzq : w6.heap.size < w18.heap.size := lt_of_cell (a := ⟨w6.heap.size, 0, none⟩) Kq.out.1
              replace hzr : w7.heap.size < w18.heap.size := lt_of_cell (a := ⟨w7.heap.size, 0, none⟩) Kr.out.1
              obtain ⟨qp0, qp1⟩ := Kp.out
              obtain ⟨qq0, qq1⟩ := Kq.out
              obtain ⟨qr0, qr1⟩ := Kr.out
              go_wp2_with fail
              refine (same_any nr nq _ _ lr lq _ _ _ Sr.out Sq.out).mono ?_
              rw [X3.out]
              rintro e w19 ⟨rfl, hb⟩
              clear qp0 qp1 qq0 qq1 qr0 qr1
              replace Sp : Hid (Sl w19 A5 lp c5) := Sl.below Sp.out hb
              replace Sq : Hid (Sl w19 A6 lq c6) := Sl.below Sq.out hb
              replace Sr : Hid (Sl w19 A7 lr c7) := Sl.below Sr.out hb
              replace Kp : Hid (Cw w19 w5.heap.size np A5 lp.length c5) := Cw.keep Kp.out hb
              replace Kq : Hid (Cw w19 w6.heap.size nq A6 lq.length c6) := Cw.keep Kq.out hb
              replace Kr : Hid (Cw w19 w7.heap.size nr A7 lr.length c7) := Cw.keep Kr.out hb
              replace B : Hid (Below w.heap.size w w19) := below_mono B.out hb
              clear hb
              replace hzp : w5.heap.size < w19.heap.size := lt_of_cell (a := ⟨w5.heap.size, 0, none⟩) Kp.out.1
              replace hzq : w6.heap.size < w19.heap.size := lt_of_cell (a := ⟨w6.heap.size, 0, none⟩) Kq.out.1
              replace hzr : w7.heap.size < w19.heap.size := lt_of_cell (a := ⟨w7.heap.size, 0, none⟩) Kr.out.1
              go_wp2
              go_ret
              exact ⟨rfl, B.out⟩

end Go.Proofs.YtmelbahbjdogdaaGreatDoor

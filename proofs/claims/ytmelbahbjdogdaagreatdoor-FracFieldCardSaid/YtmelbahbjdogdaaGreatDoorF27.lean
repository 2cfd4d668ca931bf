/- The walk of the law FracField. -/
import Derived.Test.YtmelbahbjdogdaaGreatDoorF26
import Derived.Test.YtmelbahbjdogdaaGreatDoorF13
import Derived.Test.YtmelbahbjdogdaaGreatDoorFMath
namespace Go.Proofs.YtmelbahbjdogdaaGreatDoor
open Go.RowKit
attribute [local go_sem ↓] Go.wp_at_zero Go.wp_at_succ
theorem long_facts3 {na nb nc nd ne nf : Bool} {la lb lc ld le lf : List Nat} (h1 : Lim la) (h2 : Lim lb) (h3 : Lim lc) (h4 : Lim ld) (h5 : Lim le) (h6 : Lim lf) (h : longF na la nb lb nc lc nd ld ne le nf lf = false) :
    VFk 20 na la nb lb (zv na la) (zv nb lb) ∧ VFk 20 nc lc nd ld (zv nc lc) (zv nd ld) ∧ VFk 20 ne le nf lf (zv ne le) (zv nf lf) := by
  unfold longF at h
  simp only [Bool.or_eq_false_iff, decide_eq_false_iff_not] at h
  obtain ⟨⟨⟨⟨⟨k1, k2⟩, k3⟩, k4⟩, k5⟩, k6⟩ := h
  have f1 := fewS_le (show fewS la lb ≤ 20 by omega)
  have f2 := fewS_le (show fewS lc ld ≤ 20 by omega)
  have f3 := fewS_le (show fewS le lf ≤ 20 by omega)
  exact ⟨vfk_of (vf_of h1 h2 k1) f1.1 f1.2, vfk_of (vf_of h3 h4 k2) f2.1 f2.2, vfk_of (vf_of h5 h6 k3) f3.1 f3.2⟩

theorem alive_true (w : World) : Calls Tryz.prog 17 #[] w fun e w' => e = .returned (.bool true) ∧ Below w.heap.size w w' := alive_any w

set_option maxRecDepth 100000 in
set_option maxHeartbeats 4000000 in
theorem fracField_walk (na nb nc nd ne nf : Bool) (Aa Ab Ac Ad Ae Af : Option Addr) (la lb lc ld le lf : List Nat) (ca cb cc cd ce cf : Nat) (w : World) (hsa : Sl w Aa la ca) (hsb : Sl w Ab lb cb) (hsc : Sl w Ac lc cc) (hsd : Sl w Ad ld cd) (hse : Sl w Ae le ce) (hsf : Sl w Af lf cf) :
    Calls Tryz.prog 8 #[.agg #[.bool na, .slice Aa la.length ca, .bool nb, .slice Ab lb.length cb], .agg #[.bool nc, .slice Ac lc.length cc, .bool nd, .slice Ad ld.length cd], .agg #[.bool ne, .slice Ae le.length ce, .bool nf, .slice Af lf.length cf]] w fun e w' => e = .returned (.bool true) ∧ Below w.heap.size w w' := by
  have Sa1 := Lib.hid hsa
  have Sa2 := Lib.hid hsb
  have Sb1 := Lib.hid hsc
  have Sb2 := Lib.hid hsd
  have Sc1 := Lib.hid hse
  have Sc2 := Lib.hid hsf
  have B : Hid (Below w.heap.size w w) := Below.refl _ _
  cases hlong : longF na la nb lb nc lc nd ld ne le nf lf with
  | true =>
    have HL := Lib.hid hlong
    clear hlong hsa hsb hsc hsd hse hsf
    go_enter Tryz.func8, Tryz.ntmps8
    go_wp2_with fail
    refine (alive_true _).mono ?_
    rintro e w1 ⟨rfl, hb⟩
    replace Sa1 : Hid (Sl w1 Aa la ca) := Sl.below (((Sa1.out.alloc _).alloc _).alloc _) hb
    replace Sa2 : Hid (Sl w1 Ab lb cb) := Sl.below (((Sa2.out.alloc _).alloc _).alloc _) hb
    replace Sb1 : Hid (Sl w1 Ac lc cc) := Sl.below (((Sb1.out.alloc _).alloc _).alloc _) hb
    replace Sb2 : Hid (Sl w1 Ad ld cd) := Sl.below (((Sb2.out.alloc _).alloc _).alloc _) hb
    replace Sc1 : Hid (Sl w1 Ae le ce) := Sl.below (((Sc1.out.alloc _).alloc _).alloc _) hb
    replace Sc2 : Hid (Sl w1 Af lf cf) := Sl.below (((Sc2.out.alloc _).alloc _).alloc _) hb
    have Ka : Hid (Cf w1 w.heap.size na Aa la.length ca nb Ab lb.length cb) := Cf.keep (Cf.keep (Cf.keep (Cf.fresh (by simp) _ _ _ _ _ _ _ _ _) (blw1 _ _)) (blw1 _ _)) hb
    have Kb : Hid (Cf w1 (w.heap.size + 1) nc Ac lc.length cc nd Ad ld.length cd) := Cf.keep (Cf.keep (Cf.fresh (by simp) _ _ _ _ _ _ _ _ _) (blw1 _ _)) hb
    have Kc : Hid (Cf w1 (w.heap.size + 1 + 1) ne Ae le.length ce nf Af lf.length cf) := Cf.keep (Cf.fresh (by simp) _ _ _ _ _ _ _ _ _) hb
    replace B : Hid (Below w.heap.size w w1) := below_mono (below_mono (below_mono (below_mono B.out (blw1 _ _)) (blw1 _ _)) (blw1 _ _)) hb
    clear hb
    have hza : w.heap.size < w1.heap.size := lt_of_cell (a := ⟨w.heap.size, 0, none⟩) Ka.out.1
    have hzb : w.heap.size + 1 < w1.heap.size := lt_of_cell (a := ⟨w.heap.size + 1, 0, none⟩) Kb.out.1
    have hzc : w.heap.size + 1 + 1 < w1.heap.size := lt_of_cell (a := ⟨w.heap.size + 1 + 1, 0, none⟩) Kc.out.1
    obtain ⟨qa0, qa1, qa2, qa3⟩ := Ka.out
    obtain ⟨qb0, qb1, qb2, qb3⟩ := Kb.out
    obtain ⟨qc0, qc1, qc2, qc3⟩ := Kc.out
    go_wp2_with fail
    refine (long_any na nb nc nd ne nf _ _ _ _ _ _ la lb lc ld le lf _ _ _ _ _ _ _ Sa1.out Sa2.out Sb1.out Sb2.out Sc1.out Sc2.out).mono ?_
    rw [HL.out]
    rintro e w2 ⟨rfl, hb⟩
    clear qa0 qa1 qa2 qa3 qb0 qb1 qb2 qb3 qc0 qc1 qc2 qc3
    replace Sa1 : Hid (Sl w2 Aa la ca) := Sl.below Sa1.out hb
    replace Sa2 : Hid (Sl w2 Ab lb cb) := Sl.below Sa2.out hb
    replace Sb1 : Hid (Sl w2 Ac lc cc) := Sl.below Sb1.out hb
    replace Sb2 : Hid (Sl w2 Ad ld cd) := Sl.below Sb2.out hb
    replace Sc1 : Hid (Sl w2 Ae le ce) := Sl.below Sc1.out hb
    replace Sc2 : Hid (Sl w2 Af lf cf) := Sl.below Sc2.out hb
    replace Ka : Hid (Cf w2 w.heap.size na Aa la.length ca nb Ab lb.length cb) := Cf.keep Ka.out hb
    replace Kb : Hid (Cf w2 (w.heap.size + 1) nc Ac lc.length cc nd Ad ld.length cd) := Cf.keep Kb.out hb
    replace Kc : Hid (Cf w2 (w.heap.size + 1 + 1) ne Ae le.length ce nf Af lf.length cf) := Cf.keep Kc.out hb
    replace B : Hid (Below w.heap.size w w2) := below_mono B.out hb
    clear hb
    replace hza : w.heap.size < w2.heap.size := lt_of_cell (a := ⟨w.heap.size, 0, none⟩) Ka.out.1
    replace hzb : w.heap.size + 1 < w2.heap.size := lt_of_cell (a := ⟨w.heap.size + 1, 0, none⟩) Kb.out.1
    replace hzc : w.heap.size + 1 + 1 < w2.heap.size := lt_of_cell (a := ⟨w.heap.size + 1 + 1, 0, none⟩) Kc.out.1
    go_wp2
    go_ret
    exact ⟨rfl, B.out⟩
  | false =>
    obtain ⟨va, vb, vc⟩ := long_facts3 hsa.lim hsb.lim hsc.lim hsd.lim hse.lim hsf.lim hlong
    have HL := Lib.hid hlong
    obtain ⟨⟨⟨ns1, ls1⟩, ⟨ns2, ls2⟩⟩, ⟨⟨np1, lp1⟩, ⟨np2, lp2⟩⟩, ⟨⟨nx1, lx1⟩, ⟨nx2, lx2⟩⟩, ⟨⟨ny1, ly1⟩, ⟨ny2, ly2⟩⟩, e1', e2', e3', e4', e5', e6', e9', e8'⟩ := field_facts va vb vc
    have e7' : negF na la nb lb = ((wOf (-(zv na la)), (nb, lb)), 0) := negF_good va.vf
    obtain ⟨⟨nn, ln⟩, hn⟩ : ∃ p, p = wOf (-(zv na la)) := ⟨_, rfl⟩
    obtain ⟨⟨⟨no1, lo1⟩, ⟨no2, lo2⟩⟩, ho⟩ : ∃ p, p = redZ 0 1 := ⟨_, rfl⟩
    have h01 : Hid ((ofS 0 1).1 = ((no1, lo1), (no2, lo2))) := by rw [ho]; rfl
    rw [← hn] at e7' e8'
    rw [← ho] at e8'
    dsimp only at e1' e2' e3' e4' e5' e6' e7' e8' e9'
    have E1 := Lib.hid e1'
    have E2 := Lib.hid e2'
    have E3 := Lib.hid e3'
    have E4 := Lib.hid e4'
    have E5 := Lib.hid e5'
    have E6 := Lib.hid e6'
    have E7 := Lib.hid e7'
    have E8 := Lib.hid e8'
    have E9 := Lib.hid e9'
    by_cases h0 : zv nc lc = 0
    · have hq : Hid (bothF na la nb lb nc lc nd ld divV = (((false, []), (false, [])), 18)) := by
        rw [Hid, both_good va.vf vb.vf]
        unfold divV
        rw [if_pos h0]
        rfl
      have hl0 : lc.length = 0 := vb.vf.num.zero.2 h0
      have hl1 : ((lc.length : Int) == 0) = true := by rw [beq_iff_eq]; omega
      clear hl0 hlong hsa hsb hsc hsd hse hsf va vb vc e1' e2' e3' e4' e5' e6' e7' e8' e9' hn ho h0
      go_enter Tryz.func8, Tryz.ntmps8
      go_wp2_with fail
      refine (alive_true _).mono ?_
      rintro e w1 ⟨rfl, hb⟩
      replace Sa1 : Hid (Sl w1 Aa la ca) := Sl.below (((Sa1.out.alloc _).alloc _).alloc _) hb
      replace Sa2 : Hid (Sl w1 Ab lb cb) := Sl.below (((Sa2.out.alloc _).alloc _).alloc _) hb
      replace Sb1 : Hid (Sl w1 Ac lc cc) := Sl.below (((Sb1.out.alloc _).alloc _).alloc _) hb
      replace Sb2 : Hid (Sl w1 Ad ld cd) := Sl.below (((Sb2.out.alloc _).alloc _).alloc _) hb
      replace Sc1 : Hid (Sl w1 Ae le ce) := Sl.below (((Sc1.out.alloc _).alloc _).alloc _) hb
      replace Sc2 : Hid (Sl w1 Af lf cf) := Sl.below (((Sc2.out.alloc _).alloc _).alloc _) hb
      have Ka : Hid (Cf w1 w.heap.size na Aa la.length ca nb Ab lb.length cb) := Cf.keep (Cf.keep (Cf.keep (Cf.fresh (by simp) _ _ _ _ _ _ _ _ _) (blw1 _ _)) (blw1 _ _)) hb
      have Kb : Hid (Cf w1 (w.heap.size + 1) nc Ac lc.length cc nd Ad ld.length cd) := Cf.keep (Cf.keep (Cf.fresh (by simp) _ _ _ _ _ _ _ _ _) (blw1 _ _)) hb
      have Kc : Hid (Cf w1 (w.heap.size + 1 + 1) ne Ae le.length ce nf Af lf.length cf) := Cf.keep (Cf.fresh (by simp) _ _ _ _ _ _ _ _ _) hb
      replace B : Hid (Below w.heap.size w w1) := below_mono (below_mono (below_mono (below_mono B.out (blw1 _ _)) (blw1 _ _)) (blw1 _ _)) hb
      clear hb
      have hza : w.heap.size < w1.heap.size := lt_of_cell (a := ⟨w.heap.size, 0, none⟩) Ka.out.1
      have hzb : w.heap.size + 1 < w1.heap.size := lt_of_cell (a := ⟨w.heap.size + 1, 0, none⟩) Kb.out.1
      have hzc : w.heap.size + 1 + 1 < w1.heap.size := lt_of_cell (a := ⟨w.heap.size + 1 + 1, 0, none⟩) Kc.out.1
      obtain ⟨qa0, qa1, qa2, qa3⟩ := Ka.out
      obtain ⟨qb0, qb1, qb2, qb3⟩ := Kb.out
      obtain ⟨qc0, qc1, qc2, qc3⟩ := Kc.out
      go_wp2_with fail
      refine (long_any na nb nc nd ne nf _ _ _ _ _ _ la lb lc ld le lf _ _ _ _ _ _ _ Sa1.out Sa2.out Sb1.out Sb2.out Sc1.out Sc2.out).mono ?_
      rw [HL.out]
      rintro e w2 ⟨rfl, hb⟩
      clear qa0 qa1 qa2 qa3 qb0 qb1 qb2 qb3 qc0 qc1 qc2 qc3
      replace Sa1 : Hid (Sl w2 Aa la ca) := Sl.below Sa1.out hb
      replace Sa2 : Hid (Sl w2 Ab lb cb) := Sl.below Sa2.out hb
      replace Sb1 : Hid (Sl w2 Ac lc cc) := Sl.below Sb1.out hb
      replace Sb2 : Hid (Sl w2 Ad ld cd) := Sl.below Sb2.out hb
      replace Sc1 : Hid (Sl w2 Ae le ce) := Sl.below Sc1.out hb
      replace Sc2 : Hid (Sl w2 Af lf cf) := Sl.below Sc2.out hb
      replace Ka : Hid (Cf w2 w.heap.size na Aa la.length ca nb Ab lb.length cb) := Cf.keep Ka.out hb
      replace Kb : Hid (Cf w2 (w.heap.size + 1) nc Ac lc.length cc nd Ad ld.length cd) := Cf.keep Kb.out hb
      replace Kc : Hid (Cf w2 (w.heap.size + 1 + 1) ne Ae le.length ce nf Af lf.length cf) := Cf.keep Kc.out hb
      replace B : Hid (Below w.heap.size w w2) := below_mono B.out hb
      clear hb
      replace hza : w.heap.size < w2.heap.size := lt_of_cell (a := ⟨w.heap.size, 0, none⟩) Ka.out.1
      replace hzb : w.heap.size + 1 < w2.heap.size := lt_of_cell (a := ⟨w.heap.size + 1, 0, none⟩) Kb.out.1
      replace hzc : w.heap.size + 1 + 1 < w2.heap.size := lt_of_cell (a := ⟨w.heap.size + 1 + 1, 0, none⟩) Kc.out.1
      obtain ⟨qa0, qa1, qa2, qa3⟩ := Ka.out
      obtain ⟨qb0, qb1, qb2, qb3⟩ := Kb.out
      go_wp2_with fail
      refine (fadd_good na nb nc nd _ _ _ _ la lb lc ld _ _ _ _ ((congrArg Prod.snd E1.out)) _ Sa1.out Sa2.out Sb1.out Sb2.out).mono ?_
      rw [E1.out]
      rintro e w3 ⟨A3, c3, B3, d3, rfl, hs3, ht3, hb⟩
      clear qa0 qa1 qa2 qa3 qb0 qb1 qb2 qb3
      replace Sa1 : Hid (Sl w3 Aa la ca) := Sl.below Sa1.out hb
      replace Sa2 : Hid (Sl w3 Ab lb cb) := Sl.below Sa2.out hb
      replace Sb1 : Hid (Sl w3 Ac lc cc) := Sl.below Sb1.out hb
      replace Sb2 : Hid (Sl w3 Ad ld cd) := Sl.below Sb2.out hb
      replace Sc1 : Hid (Sl w3 Ae le ce) := Sl.below Sc1.out hb
      replace Sc2 : Hid (Sl w3 Af lf cf) := Sl.below Sc2.out hb
      replace Ka : Hid (Cf w3 w.heap.size na Aa la.length ca nb Ab lb.length cb) := Cf.keep Ka.out hb
      replace Kb : Hid (Cf w3 (w.heap.size + 1) nc Ac lc.length cc nd Ad ld.length cd) := Cf.keep Kb.out hb
      replace Kc : Hid (Cf w3 (w.heap.size + 1 + 1) ne Ae le.length ce nf Af lf.length cf) := Cf.keep Kc.out hb
      replace B : Hid (Below w.heap.size w w3) := below_mono B.out hb
      clear hb
      (try dsimp only at hs3 ht3)
      (try dsimp only)
      have Ss1 : Hid (Sl w3 A3 ls1 c3) := hs3
      clear hs3
      have Ss2 : Hid (Sl w3 B3 ls2 d3) := ht3
      clear ht3
      replace hza : w.heap.size < w3.heap.size := lt_of_cell (a := ⟨w.heap.size, 0, none⟩) Ka.out.1
      replace hzb : w.heap.size + 1 < w3.heap.size := lt_of_cell (a := ⟨w.heap.size + 1, 0, none⟩) Kb.out.1
      replace hzc : w.heap.size + 1 + 1 < w3.heap.size := lt_of_cell (a := ⟨w.heap.size + 1 + 1, 0, none⟩) Kc.out.1
      have hkas := hza
      have hkbs := hzb
      have hkcs := hzc
      obtain ⟨qb0, qb1, qb2, qb3⟩ := Kb.out
      go_wp2_with fail
      refine (fsub_good ns1 ns2 nc nd _ _ _ _ ls1 ls2 lc ld _ _ _ _ ((congrArg Prod.snd E2.out)) _ (Ss1.out.alloc _) (Ss2.out.alloc _) (Sb1.out.alloc _) (Sb2.out.alloc _)).mono ?_
      rw [E2.out]
      rintro e w4 ⟨A4, c4, B4, d4, rfl, hs4, ht4, hb⟩
      clear qb0 qb1 qb2 qb3
      replace Sa1 : Hid (Sl w4 Aa la ca) := Sl.below (Sa1.out.alloc _) hb
      replace Sa2 : Hid (Sl w4 Ab lb cb) := Sl.below (Sa2.out.alloc _) hb
      replace Sb1 : Hid (Sl w4 Ac lc cc) := Sl.below (Sb1.out.alloc _) hb
      replace Sb2 : Hid (Sl w4 Ad ld cd) := Sl.below (Sb2.out.alloc _) hb
      replace Sc1 : Hid (Sl w4 Ae le ce) := Sl.below (Sc1.out.alloc _) hb
      replace Sc2 : Hid (Sl w4 Af lf cf) := Sl.below (Sc2.out.alloc _) hb
      replace Ss1 : Hid (Sl w4 A3 ls1 c3) := Sl.below (Ss1.out.alloc _) hb
      replace Ss2 : Hid (Sl w4 B3 ls2 d3) := Sl.below (Ss2.out.alloc _) hb
      replace Ka : Hid (Cf w4 w.heap.size na Aa la.length ca nb Ab lb.length cb) := Cf.keep (Cf.keep Ka.out (blw1 _ _)) hb
      replace Kb : Hid (Cf w4 (w.heap.size + 1) nc Ac lc.length cc nd Ad ld.length cd) := Cf.keep (Cf.keep Kb.out (blw1 _ _)) hb
      replace Kc : Hid (Cf w4 (w.heap.size + 1 + 1) ne Ae le.length ce nf Af lf.length cf) := Cf.keep (Cf.keep Kc.out (blw1 _ _)) hb
      have Ks : Hid (Cf w4 w3.heap.size ns1 A3 ls1.length c3 ns2 B3 ls2.length d3) := Cf.keep (Cf.fresh (by simp) _ _ _ _ _ _ _ _ _) hb
      replace B : Hid (Below w.heap.size w w4) := below_mono (below_mono B.out (blw1 _ _)) hb
      clear hb
      (try dsimp only at hs4 ht4)
      (try dsimp only)
      have Sd1 : Hid (Sl w4 A4 la c4) := hs4
      clear hs4
      have Sd2 : Hid (Sl w4 B4 lb d4) := ht4
      clear ht4
      replace hza : w.heap.size < w4.heap.size := lt_of_cell (a := ⟨w.heap.size, 0, none⟩) Ka.out.1
      replace hzb : w.heap.size + 1 < w4.heap.size := lt_of_cell (a := ⟨w.heap.size + 1, 0, none⟩) Kb.out.1
      replace hzc : w.heap.size + 1 + 1 < w4.heap.size := lt_of_cell (a := ⟨w.heap.size + 1 + 1, 0, none⟩) Kc.out.1
      have hzs : w3.heap.size < w4.heap.size := lt_of_cell (a := ⟨w3.heap.size, 0, none⟩) Ks.out.1
      have hkad := hza
      have hkbd := hzb
      have hkcd := hzc
      have hksd := hzs
      obtain ⟨qs0, qs1, qs2, qs3⟩ := Ks.out
      obtain ⟨qc0, qc1, qc2, qc3⟩ := Kc.out
      go_wp2_with fail
      refine (fmul_good ns1 ns2 ne nf _ _ _ _ ls1 ls2 le lf _ _ _ _ ((congrArg Prod.snd E3.out)) _ (Ss1.out.alloc _) (Ss2.out.alloc _) (Sc1.out.alloc _) (Sc2.out.alloc _)).mono ?_
      rw [E3.out]
      rintro e w5 ⟨A5, c5, B5, d5, rfl, hs5, ht5, hb⟩
      clear qs0 qs1 qs2 qs3 qc0 qc1 qc2 qc3
      replace Sa1 : Hid (Sl w5 Aa la ca) := Sl.below (Sa1.out.alloc _) hb
      replace Sa2 : Hid (Sl w5 Ab lb cb) := Sl.below (Sa2.out.alloc _) hb
      replace Sb1 : Hid (Sl w5 Ac lc cc) := Sl.below (Sb1.out.alloc _) hb
      replace Sb2 : Hid (Sl w5 Ad ld cd) := Sl.below (Sb2.out.alloc _) hb
      replace Sc1 : Hid (Sl w5 Ae le ce) := Sl.below (Sc1.out.alloc _) hb
      replace Sc2 : Hid (Sl w5 Af lf cf) := Sl.below (Sc2.out.alloc _) hb
      replace Ss1 : Hid (Sl w5 A3 ls1 c3) := Sl.below (Ss1.out.alloc _) hb
      replace Ss2 : Hid (Sl w5 B3 ls2 d3) := Sl.below (Ss2.out.alloc _) hb
      replace Sd1 : Hid (Sl w5 A4 la c4) := Sl.below (Sd1.out.alloc _) hb
      replace Sd2 : Hid (Sl w5 B4 lb d4) := Sl.below (Sd2.out.alloc _) hb
      replace Ka : Hid (Cf w5 w.heap.size na Aa la.length ca nb Ab lb.length cb) := Cf.keep (Cf.keep Ka.out (blw1 _ _)) hb
      replace Kb : Hid (Cf w5 (w.heap.size + 1) nc Ac lc.length cc nd Ad ld.length cd) := Cf.keep (Cf.keep Kb.out (blw1 _ _)) hb
      replace Kc : Hid (Cf w5 (w.heap.size + 1 + 1) ne Ae le.length ce nf Af lf.length cf) := Cf.keep (Cf.keep Kc.out (blw1 _ _)) hb
      replace Ks : Hid (Cf w5 w3.heap.size ns1 A3 ls1.length c3 ns2 B3 ls2.length d3) := Cf.keep (Cf.keep Ks.out (blw1 _ _)) hb
      have Kd : Hid (Cf w5 w4.heap.size na A4 la.length c4 nb B4 lb.length d4) := Cf.keep (Cf.fresh (by simp) _ _ _ _ _ _ _ _ _) hb
      replace B : Hid (Below w.heap.size w w5) := below_mono (below_mono B.out (blw1 _ _)) hb
      clear hb
      (try dsimp only at hs5 ht5)
      (try dsimp only)
      have Sp1 : Hid (Sl w5 A5 lp1 c5) := hs5
      clear hs5
      have Sp2 : Hid (Sl w5 B5 lp2 d5) := ht5
      clear ht5
      replace hza : w.heap.size < w5.heap.size := lt_of_cell (a := ⟨w.heap.size, 0, none⟩) Ka.out.1
      replace hzb : w.heap.size + 1 < w5.heap.size := lt_of_cell (a := ⟨w.heap.size + 1, 0, none⟩) Kb.out.1
      replace hzc : w.heap.size + 1 + 1 < w5.heap.size := lt_of_cell (a := ⟨w.heap.size + 1 + 1, 0, none⟩) Kc.out.1
      replace hzs : w3.heap.size < w5.heap.size := lt_of_cell (a := ⟨w3.heap.size, 0, none⟩) Ks.out.1
      have hzd : w4.heap.size < w5.heap.size := lt_of_cell (a := ⟨w4.heap.size, 0, none⟩) Kd.out.1
      have hkap := hza
      have hkbp := hzb
      have hkcp := hzc
      have hksp := hzs
      have hkdp := hzd
      clear Ss1
      clear Ss2
      clear Ks
      obtain ⟨qa0, qa1, qa2, qa3⟩ := Ka.out
      obtain ⟨qc0, qc1, qc2, qc3⟩ := Kc.out
      go_wp2_with fail
      refine (fmul_good na nb ne nf _ _ _ _ la lb le lf _ _ _ _ ((congrArg Prod.snd E4.out)) _ (Sa1.out.alloc _) (Sa2.out.alloc _) (Sc1.out.alloc _) (Sc2.out.alloc _)).mono ?_
      rw [E4.out]
      rintro e w6 ⟨A6, c6, B6, d6, rfl, hs6, ht6, hb⟩
      clear qa0 qa1 qa2 qa3 qc0 qc1 qc2 qc3
      replace Sa1 : Hid (Sl w6 Aa la ca) := Sl.below (Sa1.out.alloc _) hb
      replace Sa2 : Hid (Sl w6 Ab lb cb) := Sl.below (Sa2.out.alloc _) hb
      replace Sb1 : Hid (Sl w6 Ac lc cc) := Sl.below (Sb1.out.alloc _) hb
      replace Sb2 : Hid (Sl w6 Ad ld cd) := Sl.below (Sb2.out.alloc _) hb
      replace Sc1 : Hid (Sl w6 Ae le ce) := Sl.below (Sc1.out.alloc _) hb
      replace Sc2 : Hid (Sl w6 Af lf cf) := Sl.below (Sc2.out.alloc _) hb
      replace Sd1 : Hid (Sl w6 A4 la c4) := Sl.below (Sd1.out.alloc _) hb
      replace Sd2 : Hid (Sl w6 B4 lb d4) := Sl.below (Sd2.out.alloc _) hb
      replace Sp1 : Hid (Sl w6 A5 lp1 c5) := Sl.below (Sp1.out.alloc _) hb
      replace Sp2 : Hid (Sl w6 B5 lp2 d5) := Sl.below (Sp2.out.alloc _) hb
      replace Ka : Hid (Cf w6 w.heap.size na Aa la.length ca nb Ab lb.length cb) := Cf.keep (Cf.keep Ka.out (blw1 _ _)) hb
      replace Kb : Hid (Cf w6 (w.heap.size + 1) nc Ac lc.length cc nd Ad ld.length cd) := Cf.keep (Cf.keep Kb.out (blw1 _ _)) hb
      replace Kc : Hid (Cf w6 (w.heap.size + 1 + 1) ne Ae le.length ce nf Af lf.length cf) := Cf.keep (Cf.keep Kc.out (blw1 _ _)) hb
      replace Kd : Hid (Cf w6 w4.heap.size na A4 la.length c4 nb B4 lb.length d4) := Cf.keep (Cf.keep Kd.out (blw1 _ _)) hb
      have Kp : Hid (Cf w6 w5.heap.size np1 A5 lp1.length c5 np2 B5 lp2.length d5) := Cf.keep (Cf.fresh (by simp) _ _ _ _ _ _ _ _ _) hb
      replace B : Hid (Below w.heap.size w w6) := below_mono (below_mono B.out (blw1 _ _)) hb
      clear hb
      (try dsimp only at hs6 ht6)
      (try dsimp only)
      have Sx1 : Hid (Sl w6 A6 lx1 c6) := hs6
      clear hs6
      have Sx2 : Hid (Sl w6 B6 lx2 d6) := ht6
      clear ht6
      replace hza : w.heap.size < w6.heap.size := lt_of_cell (a := ⟨w.heap.size, 0, none⟩) Ka.out.1
      replace hzb : w.heap.size + 1 < w6.heap.size := lt_of_cell (a := ⟨w.heap.size + 1, 0, none⟩) Kb.out.1
      replace hzc : w.heap.size + 1 + 1 < w6.heap.size := lt_of_cell (a := ⟨w.heap.size + 1 + 1, 0, none⟩) Kc.out.1
      replace hzd : w4.heap.size < w6.heap.size := lt_of_cell (a := ⟨w4.heap.size, 0, none⟩) Kd.out.1
      have hzp : w5.heap.size < w6.heap.size := lt_of_cell (a := ⟨w5.heap.size, 0, none⟩) Kp.out.1
      have hkax := hza
      have hkbx := hzb
      have hkcx := hzc
      have hkdx := hzd
      have hkpx := hzp
      obtain ⟨qb0, qb1, qb2, qb3⟩ := Kb.out
      obtain ⟨qc0, qc1, qc2, qc3⟩ := Kc.out
      go_wp2_with fail
      refine (fmul_good nc nd ne nf _ _ _ _ lc ld le lf _ _ _ _ ((congrArg Prod.snd E5.out)) _ (Sb1.out.alloc _) (Sb2.out.alloc _) (Sc1.out.alloc _) (Sc2.out.alloc _)).mono ?_
      rw [E5.out]
      rintro e w7 ⟨A7, c7, B7, d7, rfl, hs7, ht7, hb⟩
      clear qb0 qb1 qb2 qb3 qc0 qc1 qc2 qc3
      replace Sa1 : Hid (Sl w7 Aa la ca) := Sl.below (Sa1.out.alloc _) hb
      replace Sa2 : Hid (Sl w7 Ab lb cb) := Sl.below (Sa2.out.alloc _) hb
      replace Sb1 : Hid (Sl w7 Ac lc cc) := Sl.below (Sb1.out.alloc _) hb
      replace Sb2 : Hid (Sl w7 Ad ld cd) := Sl.below (Sb2.out.alloc _) hb
      replace Sc1 : Hid (Sl w7 Ae le ce) := Sl.below (Sc1.out.alloc _) hb
      replace Sc2 : Hid (Sl w7 Af lf cf) := Sl.below (Sc2.out.alloc _) hb
      replace Sd1 : Hid (Sl w7 A4 la c4) := Sl.below (Sd1.out.alloc _) hb
      replace Sd2 : Hid (Sl w7 B4 lb d4) := Sl.below (Sd2.out.alloc _) hb
      replace Sp1 : Hid (Sl w7 A5 lp1 c5) := Sl.below (Sp1.out.alloc _) hb
      replace Sp2 : Hid (Sl w7 B5 lp2 d5) := Sl.below (Sp2.out.alloc _) hb
      replace Sx1 : Hid (Sl w7 A6 lx1 c6) := Sl.below (Sx1.out.alloc _) hb
      replace Sx2 : Hid (Sl w7 B6 lx2 d6) := Sl.below (Sx2.out.alloc _) hb
      replace Ka : Hid (Cf w7 w.heap.size na Aa la.length ca nb Ab lb.length cb) := Cf.keep (Cf.keep Ka.out (blw1 _ _)) hb
      replace Kb : Hid (Cf w7 (w.heap.size + 1) nc Ac lc.length cc nd Ad ld.length cd) := Cf.keep (Cf.keep Kb.out (blw1 _ _)) hb
      replace Kc : Hid (Cf w7 (w.heap.size + 1 + 1) ne Ae le.length ce nf Af lf.length cf) := Cf.keep (Cf.keep Kc.out (blw1 _ _)) hb
      replace Kd : Hid (Cf w7 w4.heap.size na A4 la.length c4 nb B4 lb.length d4) := Cf.keep (Cf.keep Kd.out (blw1 _ _)) hb
      replace Kp : Hid (Cf w7 w5.heap.size np1 A5 lp1.length c5 np2 B5 lp2.length d5) := Cf.keep (Cf.keep Kp.out (blw1 _ _)) hb
      have Kx : Hid (Cf w7 w6.heap.size nx1 A6 lx1.length c6 nx2 B6 lx2.length d6) := Cf.keep (Cf.fresh (by simp) _ _ _ _ _ _ _ _ _) hb
      replace B : Hid (Below w.heap.size w w7) := below_mono (below_mono B.out (blw1 _ _)) hb
      clear hb
      (try dsimp only at hs7 ht7)
      (try dsimp only)
      have Sy1 : Hid (Sl w7 A7 ly1 c7) := hs7
      clear hs7
      have Sy2 : Hid (Sl w7 B7 ly2 d7) := ht7
      clear ht7
      replace hza : w.heap.size < w7.heap.size := lt_of_cell (a := ⟨w.heap.size, 0, none⟩) Ka.out.1
      replace hzb : w.heap.size + 1 < w7.heap.size := lt_of_cell (a := ⟨w.heap.size + 1, 0, none⟩) Kb.out.1
      replace hzc : w.heap.size + 1 + 1 < w7.heap.size := lt_of_cell (a := ⟨w.heap.size + 1 + 1, 0, none⟩) Kc.out.1
      replace hzd : w4.heap.size < w7.heap.size := lt_of_cell (a := ⟨w4.heap.size, 0, none⟩) Kd.out.1
      replace hzp : w5.heap.size < w7.heap.size := lt_of_cell (a := ⟨w5.heap.size, 0, none⟩) Kp.out.1
      have hzx : w6.heap.size < w7.heap.size := lt_of_cell (a := ⟨w6.heap.size, 0, none⟩) Kx.out.1
      have hkay := hza
      have hkby := hzb
      have hkcy := hzc
      have hkdy := hzd
      have hkpy := hzp
      have hkxy := hzx
      clear Sc1
      clear Sc2
      clear Kc
      obtain ⟨qx0, qx1, qx2, qx3⟩ := Kx.out
      go_wp2_with fail
      refine (fadd_good ny1 ny2 nx1 nx2 _ _ _ _ ly1 ly2 lx1 lx2 _ _ _ _ ((congrArg Prod.snd E6.out)) _ (Sy1.out.alloc _) (Sy2.out.alloc _) (Sx1.out.alloc _) (Sx2.out.alloc _)).mono ?_
      rw [E6.out]
      rintro e w8 ⟨A8, c8, B8, d8, rfl, hs8, ht8, hb⟩
      clear qx0 qx1 qx2 qx3
      replace Sa1 : Hid (Sl w8 Aa la ca) := Sl.below (Sa1.out.alloc _) hb
      replace Sa2 : Hid (Sl w8 Ab lb cb) := Sl.below (Sa2.out.alloc _) hb
      replace Sb1 : Hid (Sl w8 Ac lc cc) := Sl.below (Sb1.out.alloc _) hb
      replace Sb2 : Hid (Sl w8 Ad ld cd) := Sl.below (Sb2.out.alloc _) hb
      replace Sd1 : Hid (Sl w8 A4 la c4) := Sl.below (Sd1.out.alloc _) hb
      replace Sd2 : Hid (Sl w8 B4 lb d4) := Sl.below (Sd2.out.alloc _) hb
      replace Sp1 : Hid (Sl w8 A5 lp1 c5) := Sl.below (Sp1.out.alloc _) hb
      replace Sp2 : Hid (Sl w8 B5 lp2 d5) := Sl.below (Sp2.out.alloc _) hb
      replace Sx1 : Hid (Sl w8 A6 lx1 c6) := Sl.below (Sx1.out.alloc _) hb
      replace Sx2 : Hid (Sl w8 B6 lx2 d6) := Sl.below (Sx2.out.alloc _) hb
      replace Sy1 : Hid (Sl w8 A7 ly1 c7) := Sl.below (Sy1.out.alloc _) hb
      replace Sy2 : Hid (Sl w8 B7 ly2 d7) := Sl.below (Sy2.out.alloc _) hb
      replace Ka : Hid (Cf w8 w.heap.size na Aa la.length ca nb Ab lb.length cb) := Cf.keep (Cf.keep Ka.out (blw1 _ _)) hb
      replace Kb : Hid (Cf w8 (w.heap.size + 1) nc Ac lc.length cc nd Ad ld.length cd) := Cf.keep (Cf.keep Kb.out (blw1 _ _)) hb
      replace Kd : Hid (Cf w8 w4.heap.size na A4 la.length c4 nb B4 lb.length d4) := Cf.keep (Cf.keep Kd.out (blw1 _ _)) hb
      replace Kp : Hid (Cf w8 w5.heap.size np1 A5 lp1.length c5 np2 B5 lp2.length d5) := Cf.keep (Cf.keep Kp.out (blw1 _ _)) hb
      replace Kx : Hid (Cf w8 w6.heap.size nx1 A6 lx1.length c6 nx2 B6 lx2.length d6) := Cf.keep (Cf.keep Kx.out (blw1 _ _)) hb
      have Ky : Hid (Cf w8 w7.heap.size ny1 A7 ly1.length c7 ny2 B7 ly2.length d7) := Cf.keep (Cf.fresh (by simp) _ _ _ _ _ _ _ _ _) hb
      replace B : Hid (Below w.heap.size w w8) := below_mono (below_mono B.out (blw1 _ _)) hb
      clear hb
      (try dsimp only at hs8 ht8)
      (try dsimp only)
      have Sz1 : Hid (Sl w8 A8 lp1 c8) := hs8
      clear hs8
      have Sz2 : Hid (Sl w8 B8 lp2 d8) := ht8
      clear ht8
      replace hza : w.heap.size < w8.heap.size := lt_of_cell (a := ⟨w.heap.size, 0, none⟩) Ka.out.1
      replace hzb : w.heap.size + 1 < w8.heap.size := lt_of_cell (a := ⟨w.heap.size + 1, 0, none⟩) Kb.out.1
      replace hzd : w4.heap.size < w8.heap.size := lt_of_cell (a := ⟨w4.heap.size, 0, none⟩) Kd.out.1
      replace hzp : w5.heap.size < w8.heap.size := lt_of_cell (a := ⟨w5.heap.size, 0, none⟩) Kp.out.1
      replace hzx : w6.heap.size < w8.heap.size := lt_of_cell (a := ⟨w6.heap.size, 0, none⟩) Kx.out.1
      have hzy : w7.heap.size < w8.heap.size := lt_of_cell (a := ⟨w7.heap.size, 0, none⟩) Ky.out.1
      have hkaz := hza
      have hkbz := hzb
      have hkdz := hzd
      have hkpz := hzp
      have hkxz := hzx
      have hkyz := hzy
      clear Sy1
      clear Sy2
      clear Ky
      clear Sx1
      clear Sx2
      clear Kx
      obtain ⟨qa0, qa1, qa2, qa3⟩ := Ka.out
      go_wp2_with fail
      refine (fneg_any na nb _ _ la lb _ _ _ (Sa1.out.alloc _) (Sa2.out.alloc _)).mono ?_
      rw [E7.out]
      rintro e w9 ⟨A9, c9, B9, d9, rfl, hs9, ht9, hb⟩
      clear qa0 qa1 qa2 qa3
      replace Sa1 : Hid (Sl w9 Aa la ca) := Sl.below (Sa1.out.alloc _) hb
      replace Sa2 : Hid (Sl w9 Ab lb cb) := Sl.below (Sa2.out.alloc _) hb
      replace Sb1 : Hid (Sl w9 Ac lc cc) := Sl.below (Sb1.out.alloc _) hb
      replace Sb2 : Hid (Sl w9 Ad ld cd) := Sl.below (Sb2.out.alloc _) hb
      replace Sd1 : Hid (Sl w9 A4 la c4) := Sl.below (Sd1.out.alloc _) hb
      replace Sd2 : Hid (Sl w9 B4 lb d4) := Sl.below (Sd2.out.alloc _) hb
      replace Sp1 : Hid (Sl w9 A5 lp1 c5) := Sl.below (Sp1.out.alloc _) hb
      replace Sp2 : Hid (Sl w9 B5 lp2 d5) := Sl.below (Sp2.out.alloc _) hb
      replace Sz1 : Hid (Sl w9 A8 lp1 c8) := Sl.below (Sz1.out.alloc _) hb
      replace Sz2 : Hid (Sl w9 B8 lp2 d8) := Sl.below (Sz2.out.alloc _) hb
      replace Ka : Hid (Cf w9 w.heap.size na Aa la.length ca nb Ab lb.length cb) := Cf.keep (Cf.keep Ka.out (blw1 _ _)) hb
      replace Kb : Hid (Cf w9 (w.heap.size + 1) nc Ac lc.length cc nd Ad ld.length cd) := Cf.keep (Cf.keep Kb.out (blw1 _ _)) hb
      replace Kd : Hid (Cf w9 w4.heap.size na A4 la.length c4 nb B4 lb.length d4) := Cf.keep (Cf.keep Kd.out (blw1 _ _)) hb
      replace Kp : Hid (Cf w9 w5.heap.size np1 A5 lp1.length c5 np2 B5 lp2.length d5) := Cf.keep (Cf.keep Kp.out (blw1 _ _)) hb
      have Kz : Hid (Cf w9 w8.heap.size np1 A8 lp1.length c8 np2 B8 lp2.length d8) := Cf.keep (Cf.fresh (by simp) _ _ _ _ _ _ _ _ _) hb
      replace B : Hid (Below w.heap.size w w9) := below_mono (below_mono B.out (blw1 _ _)) hb
      clear hb
      (try dsimp only at hs9 ht9)
      (try dsimp only)
      have Sn1 : Hid (Sl w9 A9 ln c9) := hs9
      clear hs9
      have Sn2 : Hid (Sl w9 B9 lb d9) := ht9
      clear ht9
      replace hza : w.heap.size < w9.heap.size := lt_of_cell (a := ⟨w.heap.size, 0, none⟩) Ka.out.1
      replace hzb : w.heap.size + 1 < w9.heap.size := lt_of_cell (a := ⟨w.heap.size + 1, 0, none⟩) Kb.out.1
      replace hzd : w4.heap.size < w9.heap.size := lt_of_cell (a := ⟨w4.heap.size, 0, none⟩) Kd.out.1
      replace hzp : w5.heap.size < w9.heap.size := lt_of_cell (a := ⟨w5.heap.size, 0, none⟩) Kp.out.1
      have hzz : w8.heap.size < w9.heap.size := lt_of_cell (a := ⟨w8.heap.size, 0, none⟩) Kz.out.1
      have hkan := hza
      have hkbn := hzb
      have hkdn := hzd
      have hkpn := hzp
      have hkzn := hzz
      obtain ⟨qa0, qa1, qa2, qa3⟩ := Ka.out
      go_wp2_with fail
      refine (fadd_good nn nb na nb _ _ _ _ ln lb la lb _ _ _ _ ((congrArg Prod.snd E8.out)) _ (Sn1.out.alloc _) (Sn2.out.alloc _) (Sa1.out.alloc _) (Sa2.out.alloc _)).mono ?_
      rw [E8.out]
      rintro e w10 ⟨A10, c10, B10, d10, rfl, hs10, ht10, hb⟩
      clear qa0 qa1 qa2 qa3
      replace Sa1 : Hid (Sl w10 Aa la ca) := Sl.below (Sa1.out.alloc _) hb
      replace Sa2 : Hid (Sl w10 Ab lb cb) := Sl.below (Sa2.out.alloc _) hb
      replace Sb1 : Hid (Sl w10 Ac lc cc) := Sl.below (Sb1.out.alloc _) hb
      replace Sb2 : Hid (Sl w10 Ad ld cd) := Sl.below (Sb2.out.alloc _) hb
      replace Sd1 : Hid (Sl w10 A4 la c4) := Sl.below (Sd1.out.alloc _) hb
      replace Sd2 : Hid (Sl w10 B4 lb d4) := Sl.below (Sd2.out.alloc _) hb
      replace Sp1 : Hid (Sl w10 A5 lp1 c5) := Sl.below (Sp1.out.alloc _) hb
      replace Sp2 : Hid (Sl w10 B5 lp2 d5) := Sl.below (Sp2.out.alloc _) hb
      replace Sz1 : Hid (Sl w10 A8 lp1 c8) := Sl.below (Sz1.out.alloc _) hb
      replace Sz2 : Hid (Sl w10 B8 lp2 d8) := Sl.below (Sz2.out.alloc _) hb
      replace Sn1 : Hid (Sl w10 A9 ln c9) := Sl.below (Sn1.out.alloc _) hb
      replace Sn2 : Hid (Sl w10 B9 lb d9) := Sl.below (Sn2.out.alloc _) hb
      replace Ka : Hid (Cf w10 w.heap.size na Aa la.length ca nb Ab lb.length cb) := Cf.keep (Cf.keep Ka.out (blw1 _ _)) hb
      replace Kb : Hid (Cf w10 (w.heap.size + 1) nc Ac lc.length cc nd Ad ld.length cd) := Cf.keep (Cf.keep Kb.out (blw1 _ _)) hb
      replace Kd : Hid (Cf w10 w4.heap.size na A4 la.length c4 nb B4 lb.length d4) := Cf.keep (Cf.keep Kd.out (blw1 _ _)) hb
      replace Kp : Hid (Cf w10 w5.heap.size np1 A5 lp1.length c5 np2 B5 lp2.length d5) := Cf.keep (Cf.keep Kp.out (blw1 _ _)) hb
      replace Kz : Hid (Cf w10 w8.heap.size np1 A8 lp1.length c8 np2 B8 lp2.length d8) := Cf.keep (Cf.keep Kz.out (blw1 _ _)) hb
      have Kn : Hid (Cf w10 w9.heap.size nn A9 ln.length c9 nb B9 lb.length d9) := Cf.keep (Cf.fresh (by simp) _ _ _ _ _ _ _ _ _) hb
      replace B : Hid (Below w.heap.size w w10) := below_mono (below_mono B.out (blw1 _ _)) hb
      clear hb
      (try dsimp only at hs10 ht10)
      (try dsimp only)
      have So1 : Hid (Sl w10 A10 lo1 c10) := hs10
      clear hs10
      have So2 : Hid (Sl w10 B10 lo2 d10) := ht10
      clear ht10
      replace hza : w.heap.size < w10.heap.size := lt_of_cell (a := ⟨w.heap.size, 0, none⟩) Ka.out.1
      replace hzb : w.heap.size + 1 < w10.heap.size := lt_of_cell (a := ⟨w.heap.size + 1, 0, none⟩) Kb.out.1
      replace hzd : w4.heap.size < w10.heap.size := lt_of_cell (a := ⟨w4.heap.size, 0, none⟩) Kd.out.1
      replace hzp : w5.heap.size < w10.heap.size := lt_of_cell (a := ⟨w5.heap.size, 0, none⟩) Kp.out.1
      replace hzz : w8.heap.size < w10.heap.size := lt_of_cell (a := ⟨w8.heap.size, 0, none⟩) Kz.out.1
      have hzn : w9.heap.size < w10.heap.size := lt_of_cell (a := ⟨w9.heap.size, 0, none⟩) Kn.out.1
      have hkao := hza
      have hkbo := hzb
      have hkdo := hzd
      have hkpo := hzp
      have hkzo := hzz
      have hkno := hzn
      clear Sn1
      clear Sn2
      clear Kn
      obtain ⟨qd0, qd1, qd2, qd3⟩ := Kd.out
      obtain ⟨qa0, qa1, qa2, qa3⟩ := Ka.out
      go_wp2_with fail
      refine (fsame_eq na nb _ _ _ _ la lb _ _ _ _ _ (Sd1.out.alloc _) (Sd2.out.alloc _) (Sa1.out.alloc _) (Sa2.out.alloc _)).mono ?_
      rintro e w11 ⟨rfl, hb⟩
      clear qd0 qd1 qd2 qd3 qa0 qa1 qa2 qa3
      replace Sa1 : Hid (Sl w11 Aa la ca) := Sl.below (Sa1.out.alloc _) hb
      replace Sa2 : Hid (Sl w11 Ab lb cb) := Sl.below (Sa2.out.alloc _) hb
      replace Sb1 : Hid (Sl w11 Ac lc cc) := Sl.below (Sb1.out.alloc _) hb
      replace Sb2 : Hid (Sl w11 Ad ld cd) := Sl.below (Sb2.out.alloc _) hb
      replace Sd1 : Hid (Sl w11 A4 la c4) := Sl.below (Sd1.out.alloc _) hb
      replace Sd2 : Hid (Sl w11 B4 lb d4) := Sl.below (Sd2.out.alloc _) hb
      replace Sp1 : Hid (Sl w11 A5 lp1 c5) := Sl.below (Sp1.out.alloc _) hb
      replace Sp2 : Hid (Sl w11 B5 lp2 d5) := Sl.below (Sp2.out.alloc _) hb
      replace Sz1 : Hid (Sl w11 A8 lp1 c8) := Sl.below (Sz1.out.alloc _) hb
      replace Sz2 : Hid (Sl w11 B8 lp2 d8) := Sl.below (Sz2.out.alloc _) hb
      replace So1 : Hid (Sl w11 A10 lo1 c10) := Sl.below (So1.out.alloc _) hb
      replace So2 : Hid (Sl w11 B10 lo2 d10) := Sl.below (So2.out.alloc _) hb
      replace Ka : Hid (Cf w11 w.heap.size na Aa la.length ca nb Ab lb.length cb) := Cf.keep (Cf.keep Ka.out (blw1 _ _)) hb
      replace Kb : Hid (Cf w11 (w.heap.size + 1) nc Ac lc.length cc nd Ad ld.length cd) := Cf.keep (Cf.keep Kb.out (blw1 _ _)) hb
      replace Kd : Hid (Cf w11 w4.heap.size na A4 la.length c4 nb B4 lb.length d4) := Cf.keep (Cf.keep Kd.out (blw1 _ _)) hb
      replace Kp : Hid (Cf w11 w5.heap.size np1 A5 lp1.length c5 np2 B5 lp2.length d5) := Cf.keep (Cf.keep Kp.out (blw1 _ _)) hb
      replace Kz : Hid (Cf w11 w8.heap.size np1 A8 lp1.length c8 np2 B8 lp2.length d8) := Cf.keep (Cf.keep Kz.out (blw1 _ _)) hb
      have Ko : Hid (Cf w11 w10.heap.size no1 A10 lo1.length c10 no2 B10 lo2.length d10) := Cf.keep (Cf.fresh (by simp) _ _ _ _ _ _ _ _ _) hb
      replace B : Hid (Below w.heap.size w w11) := below_mono (below_mono B.out (blw1 _ _)) hb
      clear hb
      replace hza : w.heap.size < w11.heap.size := lt_of_cell (a := ⟨w.heap.size, 0, none⟩) Ka.out.1
      replace hzb : w.heap.size + 1 < w11.heap.size := lt_of_cell (a := ⟨w.heap.size + 1, 0, none⟩) Kb.out.1
      replace hzd : w4.heap.size < w11.heap.size := lt_of_cell (a := ⟨w4.heap.size, 0, none⟩) Kd.out.1
      replace hzp : w5.heap.size < w11.heap.size := lt_of_cell (a := ⟨w5.heap.size, 0, none⟩) Kp.out.1
      replace hzz : w8.heap.size < w11.heap.size := lt_of_cell (a := ⟨w8.heap.size, 0, none⟩) Kz.out.1
      have hzo : w10.heap.size < w11.heap.size := lt_of_cell (a := ⟨w10.heap.size, 0, none⟩) Ko.out.1
      clear Sd1
      clear Sd2
      clear Kd
      obtain ⟨qp0, qp1, qp2, qp3⟩ := Kp.out
      obtain ⟨qz0, qz1, qz2, qz3⟩ := Kz.out
      go_wp2_with fail
      refine (fsame_eq np1 np2 _ _ _ _ lp1 lp2 _ _ _ _ _ Sp1.out Sp2.out Sz1.out Sz2.out).mono ?_
      rintro e w12 ⟨rfl, hb⟩
      clear qp0 qp1 qp2 qp3 qz0 qz1 qz2 qz3
      replace Sa1 : Hid (Sl w12 Aa la ca) := Sl.below Sa1.out hb
      replace Sa2 : Hid (Sl w12 Ab lb cb) := Sl.below Sa2.out hb
      replace Sb1 : Hid (Sl w12 Ac lc cc) := Sl.below Sb1.out hb
      replace Sb2 : Hid (Sl w12 Ad ld cd) := Sl.below Sb2.out hb
      replace Sp1 : Hid (Sl w12 A5 lp1 c5) := Sl.below Sp1.out hb
      replace Sp2 : Hid (Sl w12 B5 lp2 d5) := Sl.below Sp2.out hb
      replace Sz1 : Hid (Sl w12 A8 lp1 c8) := Sl.below Sz1.out hb
      replace Sz2 : Hid (Sl w12 B8 lp2 d8) := Sl.below Sz2.out hb
      replace So1 : Hid (Sl w12 A10 lo1 c10) := Sl.below So1.out hb
      replace So2 : Hid (Sl w12 B10 lo2 d10) := Sl.below So2.out hb
      replace Ka : Hid (Cf w12 w.heap.size na Aa la.length ca nb Ab lb.length cb) := Cf.keep Ka.out hb
      replace Kb : Hid (Cf w12 (w.heap.size + 1) nc Ac lc.length cc nd Ad ld.length cd) := Cf.keep Kb.out hb
      replace Kp : Hid (Cf w12 w5.heap.size np1 A5 lp1.length c5 np2 B5 lp2.length d5) := Cf.keep Kp.out hb
      replace Kz : Hid (Cf w12 w8.heap.size np1 A8 lp1.length c8 np2 B8 lp2.length d8) := Cf.keep Kz.out hb
      replace Ko : Hid (Cf w12 w10.heap.size no1 A10 lo1.length c10 no2 B10 lo2.length d10) := Cf.keep Ko.out hb
      replace B : Hid (Below w.heap.size w w12) := below_mono B.out hb
      clear hb
      replace hza : w.heap.size < w12.heap.size := lt_of_cell (a := ⟨w.heap.size, 0, none⟩) Ka.out.1
      replace hzb : w.heap.size + 1 < w12.heap.size := lt_of_cell (a := ⟨w.heap.size + 1, 0, none⟩) Kb.out.1
      replace hzp : w5.heap.size < w12.heap.size := lt_of_cell (a := ⟨w5.heap.size, 0, none⟩) Kp.out.1
      replace hzz : w8.heap.size < w12.heap.size := lt_of_cell (a := ⟨w8.heap.size, 0, none⟩) Kz.out.1
      replace hzo : w10.heap.size < w12.heap.size := lt_of_cell (a := ⟨w10.heap.size, 0, none⟩) Ko.out.1
      clear Sz1
      clear Sz2
      clear Kz
      obtain ⟨qo0, qo1, qo2, qo3⟩ := Ko.out
      go_wp2_with fail
      refine (lsame_true no1 no2 _ _ lo1 lo2 _ _ 0 1 (by omega) (by omega) (by omega) (by omega) h01.out _ So1.out So2.out).mono ?_
      rintro e w13 ⟨rfl, hb⟩
      clear qo0 qo1 qo2 qo3
      replace Sa1 : Hid (Sl w13 Aa la ca) := Sl.below Sa1.out hb
      replace Sa2 : Hid (Sl w13 Ab lb cb) := Sl.below Sa2.out hb
      replace Sb1 : Hid (Sl w13 Ac lc cc) := Sl.below Sb1.out hb
      replace Sb2 : Hid (Sl w13 Ad ld cd) := Sl.below Sb2.out hb
      replace Sp1 : Hid (Sl w13 A5 lp1 c5) := Sl.below Sp1.out hb
      replace Sp2 : Hid (Sl w13 B5 lp2 d5) := Sl.below Sp2.out hb
      replace So1 : Hid (Sl w13 A10 lo1 c10) := Sl.below So1.out hb
      replace So2 : Hid (Sl w13 B10 lo2 d10) := Sl.below So2.out hb
      replace Ka : Hid (Cf w13 w.heap.size na Aa la.length ca nb Ab lb.length cb) := Cf.keep Ka.out hb
      replace Kb : Hid (Cf w13 (w.heap.size + 1) nc Ac lc.length cc nd Ad ld.length cd) := Cf.keep Kb.out hb
      replace Kp : Hid (Cf w13 w5.heap.size np1 A5 lp1.length c5 np2 B5 lp2.length d5) := Cf.keep Kp.out hb
      replace Ko : Hid (Cf w13 w10.heap.size no1 A10 lo1.length c10 no2 B10 lo2.length d10) := Cf.keep Ko.out hb
      replace B : Hid (Below w.heap.size w w13) := below_mono B.out hb
      clear hb
      replace hza : w.heap.size < w13.heap.size := lt_of_cell (a := ⟨w.heap.size, 0, none⟩) Ka.out.1
      replace hzb : w.heap.size + 1 < w13.heap.size := lt_of_cell (a := ⟨w.heap.size + 1, 0, none⟩) Kb.out.1
      replace hzp : w5.heap.size < w13.heap.size := lt_of_cell (a := ⟨w5.heap.size, 0, none⟩) Kp.out.1
      replace hzo : w10.heap.size < w13.heap.size := lt_of_cell (a := ⟨w10.heap.size, 0, none⟩) Ko.out.1
      clear So1
      clear So2
      clear Ko
      obtain ⟨qp0, qp1, qp2, qp3⟩ := Kp.out
      go_wp2_with fail
      refine (rfcheck_any np1 np2 _ _ lp1 lp2 _ _ _ Sp1.out Sp2.out).mono ?_
      rw [E9.out]
      rintro e w14 ⟨rfl, hb⟩
      clear qp0 qp1 qp2 qp3
      replace Sa1 : Hid (Sl w14 Aa la ca) := Sl.below Sa1.out hb
      replace Sa2 : Hid (Sl w14 Ab lb cb) := Sl.below Sa2.out hb
      replace Sb1 : Hid (Sl w14 Ac lc cc) := Sl.below Sb1.out hb
      replace Sb2 : Hid (Sl w14 Ad ld cd) := Sl.below Sb2.out hb
      replace Sp1 : Hid (Sl w14 A5 lp1 c5) := Sl.below Sp1.out hb
      replace Sp2 : Hid (Sl w14 B5 lp2 d5) := Sl.below Sp2.out hb
      replace Ka : Hid (Cf w14 w.heap.size na Aa la.length ca nb Ab lb.length cb) := Cf.keep Ka.out hb
      replace Kb : Hid (Cf w14 (w.heap.size + 1) nc Ac lc.length cc nd Ad ld.length cd) := Cf.keep Kb.out hb
      replace Kp : Hid (Cf w14 w5.heap.size np1 A5 lp1.length c5 np2 B5 lp2.length d5) := Cf.keep Kp.out hb
      replace B : Hid (Below w.heap.size w w14) := below_mono B.out hb
      clear hb
      replace hza : w.heap.size < w14.heap.size := lt_of_cell (a := ⟨w.heap.size, 0, none⟩) Ka.out.1
      replace hzb : w.heap.size + 1 < w14.heap.size := lt_of_cell (a := ⟨w.heap.size + 1, 0, none⟩) Kb.out.1
      replace hzp : w5.heap.size < w14.heap.size := lt_of_cell (a := ⟨w5.heap.size, 0, none⟩) Kp.out.1
      clear Sp1
      clear Sp2
      clear Kp
      obtain ⟨qa0, qa1, qa2, qa3⟩ := Ka.out
      obtain ⟨qb0, qb1, qb2, qb3⟩ := Kb.out
      go_wp2_with fail
      refine (fdiv_good na nb nc nd _ _ _ _ la lb lc ld _ _ _ _ (.inr (congrArg Prod.snd hq.out)) _ Sa1.out Sa2.out Sb1.out Sb2.out).mono ?_
      rw [hq.out]
      rintro e w15 ⟨A15, c15, B15, d15, rfl, hs15, ht15, hb⟩
      clear qa0 qa1 qa2 qa3 qb0 qb1 qb2 qb3
      replace Sa1 : Hid (Sl w15 Aa la ca) := Sl.below Sa1.out hb
      replace Sa2 : Hid (Sl w15 Ab lb cb) := Sl.below Sa2.out hb
      replace Sb1 : Hid (Sl w15 Ac lc cc) := Sl.below Sb1.out hb
      replace Sb2 : Hid (Sl w15 Ad ld cd) := Sl.below Sb2.out hb
      replace Ka : Hid (Cf w15 w.heap.size na Aa la.length ca nb Ab lb.length cb) := Cf.keep Ka.out hb
      replace Kb : Hid (Cf w15 (w.heap.size + 1) nc Ac lc.length cc nd Ad ld.length cd) := Cf.keep Kb.out hb
      replace B : Hid (Below w.heap.size w w15) := below_mono B.out hb
      clear hb
      (try dsimp only at hs15 ht15)
      (try dsimp only)
      have Sq1 : Hid (Sl w15 A15 [] c15) := hs15
      clear hs15
      have Sq2 : Hid (Sl w15 B15 [] d15) := ht15
      clear ht15
      replace hza : w.heap.size < w15.heap.size := lt_of_cell (a := ⟨w.heap.size, 0, none⟩) Ka.out.1
      replace hzb : w.heap.size + 1 < w15.heap.size := lt_of_cell (a := ⟨w.heap.size + 1, 0, none⟩) Kb.out.1
      have hkaq := hza
      have hkbq := hzb
      obtain ⟨qb0, qb1, qb2, qb3⟩ := Kb.out
      go_wp2
      go_ret
      exact ⟨rfl, (below_mono B.out (blw1 _ _))⟩
    · obtain ⟨⟨⟨nq1, lq1⟩, ⟨nq2, lq2⟩⟩, q1, q2⟩ := quot_facts va vb h0
      dsimp only at q1 q2
      have Q1 := Lib.hid q1
      have Q2 := Lib.hid q2
      have hl1 : ((lc.length : Int) == 0) = false := by rw [beq_eq_false_iff_ne]; intro e; exact h0 (vb.vf.num.zero.1 (by omega))
      clear hlong hsa hsb hsc hsd hse hsf va vb vc e1' e2' e3' e4' e5' e6' e7' e8' e9' hn ho h0 q1 q2
      go_enter Tryz.func8, Tryz.ntmps8
      go_wp2_with fail
      refine (alive_true _).mono ?_
      rintro e w1 ⟨rfl, hb⟩
      replace Sa1 : Hid (Sl w1 Aa la ca) := Sl.below (((Sa1.out.alloc _).alloc _).alloc _) hb
      replace Sa2 : Hid (Sl w1 Ab lb cb) := Sl.below (((Sa2.out.alloc _).alloc _).alloc _) hb
      replace Sb1 : Hid (Sl w1 Ac lc cc) := Sl.below (((Sb1.out.alloc _).alloc _).alloc _) hb
      replace Sb2 : Hid (Sl w1 Ad ld cd) := Sl.below (((Sb2.out.alloc _).alloc _).alloc _) hb
      replace Sc1 : Hid (Sl w1 Ae le ce) := Sl.below (((Sc1.out.alloc _).alloc _).alloc _) hb
      replace Sc2 : Hid (Sl w1 Af lf cf) := Sl.below (((Sc2.out.alloc _).alloc _).alloc _) hb
      have Ka : Hid (Cf w1 w.heap.size na Aa la.length ca nb Ab lb.length cb) := Cf.keep (Cf.keep (Cf.keep (Cf.fresh (by simp) _ _ _ _ _ _ _ _ _) (blw1 _ _)) (blw1 _ _)) hb
      have Kb : Hid (Cf w1 (w.heap.size + 1) nc Ac lc.length cc nd Ad ld.length cd) := Cf.keep (Cf.keep (Cf.fresh (by simp) _ _ _ _ _ _ _ _ _) (blw1 _ _)) hb
      have Kc : Hid (Cf w1 (w.heap.size + 1 + 1) ne Ae le.length ce nf Af lf.length cf) := Cf.keep (Cf.fresh (by simp) _ _ _ _ _ _ _ _ _) hb
      replace B : Hid (Below w.heap.size w w1) := below_mono (below_mono (below_mono (below_mono B.out (blw1 _ _)) (blw1 _ _)) (blw1 _ _)) hb
      clear hb
      have hza : w.heap.size < w1.heap.size := lt_of_cell (a := ⟨w.heap.size, 0, none⟩) Ka.out.1
      have hzb : w.heap.size + 1 < w1.heap.size := lt_of_cell (a := ⟨w.heap.size + 1, 0, none⟩) Kb.out.1
      have hzc : w.heap.size + 1 + 1 < w1.heap.size := lt_of_cell (a := ⟨w.heap.size + 1 + 1, 0, none⟩) Kc.out.1
      obtain ⟨qa0, qa1, qa2, qa3⟩ := Ka.out
      obtain ⟨qb0, qb1, qb2, qb3⟩ := Kb.out
      obtain ⟨qc0, qc1, qc2, qc3⟩ := Kc.out
      go_wp2_with fail
      refine (long_any na nb nc nd ne nf _ _ _ _ _ _ la lb lc ld le lf _ _ _ _ _ _ _ Sa1.out Sa2.out Sb1.out Sb2.out Sc1.out Sc2.out).mono ?_
      rw [HL.out]
      rintro e w2 ⟨rfl, hb⟩
      clear qa0 qa1 qa2 qa3 qb0 qb1 qb2 qb3 qc0 qc1 qc2 qc3
      replace Sa1 : Hid (Sl w2 Aa la ca) := Sl.below Sa1.out hb
      replace Sa2 : Hid (Sl w2 Ab lb cb) := Sl.below Sa2.out hb
      replace Sb1 : Hid (Sl w2 Ac lc cc) := Sl.below Sb1.out hb
      replace Sb2 : Hid (Sl w2 Ad ld cd) := Sl.below Sb2.out hb
      replace Sc1 : Hid (Sl w2 Ae le ce) := Sl.below Sc1.out hb
      replace Sc2 : Hid (Sl w2 Af lf cf) := Sl.below Sc2.out hb
      replace Ka : Hid (Cf w2 w.heap.size na Aa la.length ca nb Ab lb.length cb) := Cf.keep Ka.out hb
      replace Kb : Hid (Cf w2 (w.heap.size + 1) nc Ac lc.length cc nd Ad ld.length cd) := Cf.keep Kb.out hb
      replace Kc : Hid (Cf w2 (w.heap.size + 1 + 1) ne Ae le.length ce nf Af lf.length cf) := Cf.keep Kc.out hb
      replace B : Hid (Below w.heap.size w w2) := below_mono B.out hb
      clear hb
      replace hza : w.heap.size < w2.heap.size := lt_of_cell (a := ⟨w.heap.size, 0, none⟩) Ka.out.1
      replace hzb : w.heap.size + 1 < w2.heap.size := lt_of_cell (a := ⟨w.heap.size + 1, 0, none⟩) Kb.out.1
      replace hzc : w.heap.size + 1 + 1 < w2.heap.size := lt_of_cell (a := ⟨w.heap.size + 1 + 1, 0, none⟩) Kc.out.1
      obtain ⟨qa0, qa1, qa2, qa3⟩ := Ka.out
      obtain ⟨qb0, qb1, qb2, qb3⟩ := Kb.out
      go_wp2_with fail
      refine (fadd_good na nb nc nd _ _ _ _ la lb lc ld _ _ _ _ ((congrArg Prod.snd E1.out)) _ Sa1.out Sa2.out Sb1.out Sb2.out).mono ?_
      rw [E1.out]
      rintro e w3 ⟨A3, c3, B3, d3, rfl, hs3, ht3, hb⟩
      clear qa0 qa1 qa2 qa3 qb0 qb1 qb2 qb3
      replace Sa1 : Hid (Sl w3 Aa la ca) := Sl.below Sa1.out hb
      replace Sa2 : Hid (Sl w3 Ab lb cb) := Sl.below Sa2.out hb
      replace Sb1 : Hid (Sl w3 Ac lc cc) := Sl.below Sb1.out hb
      replace Sb2 : Hid (Sl w3 Ad ld cd) := Sl.below Sb2.out hb
      replace Sc1 : Hid (Sl w3 Ae le ce) := Sl.below Sc1.out hb
      replace Sc2 : Hid (Sl w3 Af lf cf) := Sl.below Sc2.out hb
      replace Ka : Hid (Cf w3 w.heap.size na Aa la.length ca nb Ab lb.length cb) := Cf.keep Ka.out hb
      replace Kb : Hid (Cf w3 (w.heap.size + 1) nc Ac lc.length cc nd Ad ld.length cd) := Cf.keep Kb.out hb
      replace Kc : Hid (Cf w3 (w.heap.size + 1 + 1) ne Ae le.length ce nf Af lf.length cf) := Cf.keep Kc.out hb
      replace B : Hid (Below w.heap.size w w3) := below_mono B.out hb
      clear hb
      (try dsimp only at hs3 ht3)
      (try dsimp only)
      have Ss1 : Hid (Sl w3 A3 ls1 c3) := hs3
      clear hs3
      have Ss2 : Hid (Sl w3 B3 ls2 d3) := ht3
      clear ht3
      replace hza : w.heap.size < w3.heap.size := lt_of_cell (a := ⟨w.heap.size, 0, none⟩) Ka.out.1
      replace hzb : w.heap.size + 1 < w3.heap.size := lt_of_cell (a := ⟨w.heap.size + 1, 0, none⟩) Kb.out.1
      replace hzc : w.heap.size + 1 + 1 < w3.heap.size := lt_of_cell (a := ⟨w.heap.size + 1 + 1, 0, none⟩) Kc.out.1
      have hkas := hza
      have hkbs := hzb
      have hkcs := hzc
      obtain ⟨qb0, qb1, qb2, qb3⟩ := Kb.out
      go_wp2_with fail
      refine (fsub_good ns1 ns2 nc nd _ _ _ _ ls1 ls2 lc ld _ _ _ _ ((congrArg Prod.snd E2.out)) _ (Ss1.out.alloc _) (Ss2.out.alloc _) (Sb1.out.alloc _) (Sb2.out.alloc _)).mono ?_
      rw [E2.out]
      rintro e w4 ⟨A4, c4, B4, d4, rfl, hs4, ht4, hb⟩
      clear qb0 qb1 qb2 qb3
      replace Sa1 : Hid (Sl w4 Aa la ca) := Sl.below (Sa1.out.alloc _) hb
      replace Sa2 : Hid (Sl w4 Ab lb cb) := Sl.below (Sa2.out.alloc _) hb
      replace Sb1 : Hid (Sl w4 Ac lc cc) := Sl.below (Sb1.out.alloc _) hb
      replace Sb2 : Hid (Sl w4 Ad ld cd) := Sl.below (Sb2.out.alloc _) hb
      replace Sc1 : Hid (Sl w4 Ae le ce) := Sl.below (Sc1.out.alloc _) hb
      replace Sc2 : Hid (Sl w4 Af lf cf) := Sl.below (Sc2.out.alloc _) hb
      replace Ss1 : Hid (Sl w4 A3 ls1 c3) := Sl.below (Ss1.out.alloc _) hb
      replace Ss2 : Hid (Sl w4 B3 ls2 d3) := Sl.below (Ss2.out.alloc _) hb
      replace Ka : Hid (Cf w4 w.heap.size na Aa la.length ca nb Ab lb.length cb) := Cf.keep (Cf.keep Ka.out (blw1 _ _)) hb
      replace Kb : Hid (Cf w4 (w.heap.size + 1) nc Ac lc.length cc nd Ad ld.length cd) := Cf.keep (Cf.keep Kb.out (blw1 _ _)) hb
      replace Kc : Hid (Cf w4 (w.heap.size + 1 + 1) ne Ae le.length ce nf Af lf.length cf) := Cf.keep (Cf.keep Kc.out (blw1 _ _)) hb
      have Ks : Hid (Cf w4 w3.heap.size ns1 A3 ls1.length c3 ns2 B3 ls2.length d3) := Cf.keep (Cf.fresh (by simp) _ _ _ _ _ _ _ _ _) hb
      replace B : Hid (Below w.heap.size w w4) := below_mono (below_mono B.out (blw1 _ _)) hb
      clear hb
      (try dsimp only at hs4 ht4)
      (try dsimp only)
      have Sd1 : Hid (Sl w4 A4 la c4) := hs4
      clear hs4
      have Sd2 : Hid (Sl w4 B4 lb d4) := ht4
      clear ht4
      replace hza : w.heap.size < w4.heap.size := lt_of_cell (a := ⟨w.heap.size, 0, none⟩) Ka.out.1
      replace hzb : w.heap.size + 1 < w4.heap.size := lt_of_cell (a := ⟨w.heap.size + 1, 0, none⟩) Kb.out.1
      replace hzc : w.heap.size + 1 + 1 < w4.heap.size := lt_of_cell (a := ⟨w.heap.size + 1 + 1, 0, none⟩) Kc.out.1
      have hzs : w3.heap.size < w4.heap.size := lt_of_cell (a := ⟨w3.heap.size, 0, none⟩) Ks.out.1
      have hkad := hza
      have hkbd := hzb
      have hkcd := hzc
      have hksd := hzs
      obtain ⟨qs0, qs1, qs2, qs3⟩ := Ks.out
      obtain ⟨qc0, qc1, qc2, qc3⟩ := Kc.out
      go_wp2_with fail
      refine (fmul_good ns1 ns2 ne nf _ _ _ _ ls1 ls2 le lf _ _ _ _ ((congrArg Prod.snd E3.out)) _ (Ss1.out.alloc _) (Ss2.out.alloc _) (Sc1.out.alloc _) (Sc2.out.alloc _)).mono ?_
      rw [E3.out]
      rintro e w5 ⟨A5, c5, B5, d5, rfl, hs5, ht5, hb⟩
      clear qs0 qs1 qs2 qs3 qc0 qc1 qc2 qc3
      replace Sa1 : Hid (Sl w5 Aa la ca) := Sl.below (Sa1.out.alloc _) hb
      replace Sa2 : Hid (Sl w5 Ab lb cb) := Sl.below (Sa2.out.alloc _) hb
      replace Sb1 : Hid (Sl w5 Ac lc cc) := Sl.below (Sb1.out.alloc _) hb
      replace Sb2 : Hid (Sl w5 Ad ld cd) := Sl.below (Sb2.out.alloc _) hb
      replace Sc1 : Hid (Sl w5 Ae le ce) := Sl.below (Sc1.out.alloc _) hb
      replace Sc2 : Hid (Sl w5 Af lf cf) := Sl.below (Sc2.out.alloc _) hb
      replace Ss1 : Hid (Sl w5 A3 ls1 c3) := Sl.below (Ss1.out.alloc _) hb
      replace Ss2 : Hid (Sl w5 B3 ls2 d3) := Sl.below (Ss2.out.alloc _) hb
      replace Sd1 : Hid (Sl w5 A4 la c4) := Sl.below (Sd1.out.alloc _) hb
      replace Sd2 : Hid (Sl w5 B4 lb d4) := Sl.below (Sd2.out.alloc _) hb
      replace Ka : Hid (Cf w5 w.heap.size na Aa la.length ca nb Ab lb.length cb) := Cf.keep (Cf.keep Ka.out (blw1 _ _)) hb
      replace Kb : Hid (Cf w5 (w.heap.size + 1) nc Ac lc.length cc nd Ad ld.length cd) := Cf.keep (Cf.keep Kb.out (blw1 _ _)) hb
      replace Kc : Hid (Cf w5 (w.heap.size + 1 + 1) ne Ae le.length ce nf Af lf.length cf) := Cf.keep (Cf.keep Kc.out (blw1 _ _)) hb
      replace Ks : Hid (Cf w5 w3.heap.size ns1 A3 ls1.length c3 ns2 B3 ls2.length d3) := Cf.keep (Cf.keep Ks.out (blw1 _ _)) hb
      have Kd : Hid (Cf w5 w4.heap.size na A4 la.length c4 nb B4 lb.length d4) := Cf.keep (Cf.fresh (by simp) _ _ _ _ _ _ _ _ _) hb
      replace B : Hid (Below w.heap.size w w5) := below_mono (below_mono B.out (blw1 _ _)) hb
      clear hb
      (try dsimp only at hs5 ht5)
      (try dsimp only)
      have Sp1 : Hid (Sl w5 A5 lp1 c5) := hs5
      clear hs5
      have Sp2 : Hid (Sl w5 B5 lp2 d5) := ht5
      clear ht5
      replace hza : w.heap.size < w5.heap.size := lt_of_cell (a := ⟨w.heap.size, 0, none⟩) Ka.out.1
      replace hzb : w.heap.size + 1 < w5.heap.size := lt_of_cell (a := ⟨w.heap.size + 1, 0, none⟩) Kb.out.1
      replace hzc : w.heap.size + 1 + 1 < w5.heap.size := lt_of_cell (a := ⟨w.heap.size + 1 + 1, 0, none⟩) Kc.out.1
      replace hzs : w3.heap.size < w5.heap.size := lt_of_cell (a := ⟨w3.heap.size, 0, none⟩) Ks.out.1
      have hzd : w4.heap.size < w5.heap.size := lt_of_cell (a := ⟨w4.heap.size, 0, none⟩) Kd.out.1
      have hkap := hza
      have hkbp := hzb
      have hkcp := hzc
      have hksp := hzs
      have hkdp := hzd
      clear Ss1
      clear Ss2
      clear Ks
      obtain ⟨qa0, qa1, qa2, qa3⟩ := Ka.out
      obtain ⟨qc0, qc1, qc2, qc3⟩ := Kc.out
      go_wp2_with fail
      refine (fmul_good na nb ne nf _ _ _ _ la lb le lf _ _ _ _ ((congrArg Prod.snd E4.out)) _ (Sa1.out.alloc _) (Sa2.out.alloc _) (Sc1.out.alloc _) (Sc2.out.alloc _)).mono ?_
      rw [E4.out]
      rintro e w6 ⟨A6, c6, B6, d6, rfl, hs6, ht6, hb⟩
      clear qa0 qa1 qa2 qa3 qc0 qc1 qc2 qc3
      replace Sa1 : Hid (Sl w6 Aa la ca) := Sl.below (Sa1.out.alloc _) hb
      replace Sa2 : Hid (Sl w6 Ab lb cb) := Sl.below (Sa2.out.alloc _) hb
      replace Sb1 : Hid (Sl w6 Ac lc cc) := Sl.below (Sb1.out.alloc _) hb
      replace Sb2 : Hid (Sl w6 Ad ld cd) := Sl.below (Sb2.out.alloc _) hb
      replace Sc1 : Hid (Sl w6 Ae le ce) := Sl.below (Sc1.out.alloc _) hb
      replace Sc2 : Hid (Sl w6 Af lf cf) := Sl.below (Sc2.out.alloc _) hb
      replace Sd1 : Hid (Sl w6 A4 la c4) := Sl.below (Sd1.out.alloc _) hb
      replace Sd2 : Hid (Sl w6 B4 lb d4) := Sl.below (Sd2.out.alloc _) hb
      replace Sp1 : Hid (Sl w6 A5 lp1 c5) := Sl.below (Sp1.out.alloc _) hb
      replace Sp2 : Hid (Sl w6 B5 lp2 d5) := Sl.below (Sp2.out.alloc _) hb
      replace Ka : Hid (Cf w6 w.heap.size na Aa la.length ca nb Ab lb.length cb) := Cf.keep (Cf.keep Ka.out (blw1 _ _)) hb
      replace Kb : Hid (Cf w6 (w.heap.size + 1) nc Ac lc.length cc nd Ad ld.length cd) := Cf.keep (Cf.keep Kb.out (blw1 _ _)) hb
      replace Kc : Hid (Cf w6 (w.heap.size + 1 + 1) ne Ae le.length ce nf Af lf.length cf) := Cf.keep (Cf.keep Kc.out (blw1 _ _)) hb
      replace Kd : Hid (Cf w6 w4.heap.size na A4 la.length c4 nb B4 lb.length d4) := Cf.keep (Cf.keep Kd.out (blw1 _ _)) hb
      have Kp : Hid (Cf w6 w5.heap.size np1 A5 lp1.length c5 np2 B5 lp2.length d5) := Cf.keep (Cf.fresh (by simp) _ _ _ _ _ _ _ _ _) hb
      replace B : Hid (Below w.heap.size w w6) := below_mono (below_mono B.out (blw1 _ _)) hb
      clear hb
      (try dsimp only at hs6 ht6)
      (try dsimp only)
      have Sx1 : Hid (Sl w6 A6 lx1 c6) := hs6
      clear hs6
      have Sx2 : Hid (Sl w6 B6 lx2 d6) := ht6
      clear ht6
      replace hza : w.heap.size < w6.heap.size := lt_of_cell (a := ⟨w.heap.size, 0, none⟩) Ka.out.1
      replace hzb : w.heap.size + 1 < w6.heap.size := lt_of_cell (a := ⟨w.heap.size + 1, 0, none⟩) Kb.out.1
      replace hzc : w.heap.size + 1 + 1 < w6.heap.size := lt_of_cell (a := ⟨w.heap.size + 1 + 1, 0, none⟩) Kc.out.1
      replace hzd : w4.heap.size < w6.heap.size := lt_of_cell (a := ⟨w4.heap.size, 0, none⟩) Kd.out.1
      have hzp : w5.heap.size < w6.heap.size := lt_of_cell (a := ⟨w5.heap.size, 0, none⟩) Kp.out.1
      have hkax := hza
      have hkbx := hzb
      have hkcx := hzc
      have hkdx := hzd
      have hkpx := hzp
      obtain ⟨qb0, qb1, qb2, qb3⟩ := Kb.out
      obtain ⟨qc0, qc1, qc2, qc3⟩ := Kc.out
      go_wp2_with fail
      refine (fmul_good nc nd ne nf _ _ _ _ lc ld le lf _ _ _ _ ((congrArg Prod.snd E5.out)) _ (Sb1.out.alloc _) (Sb2.out.alloc _) (Sc1.out.alloc _) (Sc2.out.alloc _)).mono ?_
      rw [E5.out]
      rintro e w7 ⟨A7, c7, B7, d7, rfl, hs7, ht7, hb⟩
      clear qb0 qb1 qb2 qb3 qc0 qc1 qc2 qc3
      replace Sa1 : Hid (Sl w7 Aa la ca) := Sl.below (Sa1.out.alloc _) hb
      replace Sa2 : Hid (Sl w7 Ab lb cb) := Sl.below (Sa2.out.alloc _) hb
      replace Sb1 : Hid (Sl w7 Ac lc cc) := Sl.below (Sb1.out.alloc _) hb
      replace Sb2 : Hid (Sl w7 Ad ld cd) := Sl.below (Sb2.out.alloc _) hb
      replace Sc1 : Hid (Sl w7 Ae le ce) := Sl.below (Sc1.out.alloc _) hb
      replace Sc2 : Hid (Sl w7 Af lf cf) := Sl.below (Sc2.out.alloc _) hb
      replace Sd1 : Hid (Sl w7 A4 la c4) := Sl.below (Sd1.out.alloc _) hb
      replace Sd2 : Hid (Sl w7 B4 lb d4) := Sl.below (Sd2.out.alloc _) hb
      replace Sp1 : Hid (Sl w7 A5 lp1 c5) := Sl.below (Sp1.out.alloc _) hb
      replace Sp2 : Hid (Sl w7 B5 lp2 d5) := Sl.below (Sp2.out.alloc _) hb
      replace Sx1 : Hid (Sl w7 A6 lx1 c6) := Sl.below (Sx1.out.alloc _) hb
      replace Sx2 : Hid (Sl w7 B6 lx2 d6) := Sl.below (Sx2.out.alloc _) hb
      replace Ka : Hid (Cf w7 w.heap.size na Aa la.length ca nb Ab lb.length cb) := Cf.keep (Cf.keep Ka.out (blw1 _ _)) hb
      replace Kb : Hid (Cf w7 (w.heap.size + 1) nc Ac lc.length cc nd Ad ld.length cd) := Cf.keep (Cf.keep Kb.out (blw1 _ _)) hb
      replace Kc : Hid (Cf w7 (w.heap.size + 1 + 1) ne Ae le.length ce nf Af lf.length cf) := Cf.keep (Cf.keep Kc.out (blw1 _ _)) hb
      replace Kd : Hid (Cf w7 w4.heap.size na A4 la.length c4 nb B4 lb.length d4) := Cf.keep (Cf.keep Kd.out (blw1 _ _)) hb
      replace Kp : Hid (Cf w7 w5.heap.size np1 A5 lp1.length c5 np2 B5 lp2.length d5) := Cf.keep (Cf.keep Kp.out (blw1 _ _)) hb
      have Kx : Hid (Cf w7 w6.heap.size nx1 A6 lx1.length c6 nx2 B6 lx2.length d6) := Cf.keep (Cf.fresh (by simp) _ _ _ _ _ _ _ _ _) hb
      replace B : Hid (Below w.heap.size w w7) := below_mono (below_mono B.out (blw1 _ _)) hb
      clear hb
      (try dsimp only at hs7 ht7)
      (try dsimp only)
      have Sy1 : Hid (Sl w7 A7 ly1 c7) := hs7
      clear hs7
      have Sy2 : Hid (Sl w7 B7 ly2 d7) := ht7
      clear ht7
      replace hza : w.heap.size < w7.heap.size := lt_of_cell (a := ⟨w.heap.size, 0, none⟩) Ka.out.1
      replace hzb : w.heap.size + 1 < w7.heap.size := lt_of_cell (a := ⟨w.heap.size + 1, 0, none⟩) Kb.out.1
      replace hzc : w.heap.size + 1 + 1 < w7.heap.size := lt_of_cell (a := ⟨w.heap.size + 1 + 1, 0, none⟩) Kc.out.1
      replace hzd : w4.heap.size < w7.heap.size := lt_of_cell (a := ⟨w4.heap.size, 0, none⟩) Kd.out.1
      replace hzp : w5.heap.size < w7.heap.size := lt_of_cell (a := ⟨w5.heap.size, 0, none⟩) Kp.out.1
      have hzx : w6.heap.size < w7.heap.size := lt_of_cell (a := ⟨w6.heap.size, 0, none⟩) Kx.out.1
      have hkay := hza
      have hkby := hzb
      have hkcy := hzc
      have hkdy := hzd
      have hkpy := hzp
      have hkxy := hzx
      clear Sc1
      clear Sc2
      clear Kc
      obtain ⟨qx0, qx1, qx2, qx3⟩ := Kx.out
      go_wp2_with fail
      refine (fadd_good ny1 ny2 nx1 nx2 _ _ _ _ ly1 ly2 lx1 lx2 _ _ _ _ ((congrArg Prod.snd E6.out)) _ (Sy1.out.alloc _) (Sy2.out.alloc _) (Sx1.out.alloc _) (Sx2.out.alloc _)).mono ?_
      rw [E6.out]
      rintro e w8 ⟨A8, c8, B8, d8, rfl, hs8, ht8, hb⟩
      clear qx0 qx1 qx2 qx3
      replace Sa1 : Hid (Sl w8 Aa la ca) := Sl.below (Sa1.out.alloc _) hb
      replace Sa2 : Hid (Sl w8 Ab lb cb) := Sl.below (Sa2.out.alloc _) hb
      replace Sb1 : Hid (Sl w8 Ac lc cc) := Sl.below (Sb1.out.alloc _) hb
      replace Sb2 : Hid (Sl w8 Ad ld cd) := Sl.below (Sb2.out.alloc _) hb
      replace Sd1 : Hid (Sl w8 A4 la c4) := Sl.below (Sd1.out.alloc _) hb
      replace Sd2 : Hid (Sl w8 B4 lb d4) := Sl.below (Sd2.out.alloc _) hb
      replace Sp1 : Hid (Sl w8 A5 lp1 c5) := Sl.below (Sp1.out.alloc _) hb
      replace Sp2 : Hid (Sl w8 B5 lp2 d5) := Sl.below (Sp2.out.alloc _) hb
      replace Sx1 : Hid (Sl w8 A6 lx1 c6) := Sl.below (Sx1.out.alloc _) hb
      replace Sx2 : Hid (Sl w8 B6 lx2 d6) := Sl.below (Sx2.out.alloc _) hb
      replace Sy1 : Hid (Sl w8 A7 ly1 c7) := Sl.below (Sy1.out.alloc _) hb
      replace Sy2 : Hid (Sl w8 B7 ly2 d7) := Sl.below (Sy2.out.alloc _) hb
      replace Ka : Hid (Cf w8 w.heap.size na Aa la.length ca nb Ab lb.length cb) := Cf.keep (Cf.keep Ka.out (blw1 _ _)) hb
      replace Kb : Hid (Cf w8 (w.heap.size + 1) nc Ac lc.length cc nd Ad ld.length cd) := Cf.keep (Cf.keep Kb.out (blw1 _ _)) hb
      replace Kd : Hid (Cf w8 w4.heap.size na A4 la.length c4 nb B4 lb.length d4) := Cf.keep (Cf.keep Kd.out (blw1 _ _)) hb
      replace Kp : Hid (Cf w8 w5.heap.size np1 A5 lp1.length c5 np2 B5 lp2.length d5) := Cf.keep (Cf.keep Kp.out (blw1 _ _)) hb
      replace Kx : Hid (Cf w8 w6.heap.size nx1 A6 lx1.length c6 nx2 B6 lx2.length d6) := Cf.keep (Cf.keep Kx.out (blw1 _ _)) hb
      have Ky : Hid (Cf w8 w7.heap.size ny1 A7 ly1.length c7 ny2 B7 ly2.length d7) := Cf.keep (Cf.fresh (by simp) _ _ _ _ _ _ _ _ _) hb
      replace B : Hid (Below w.heap.size w w8) := below_mono (below_mono B.out (blw1 _ _)) hb
      clear hb
      (try dsimp only at hs8 ht8)
      (try dsimp only)
      have Sz1 : Hid (Sl w8 A8 lp1 c8) := hs8
      clear hs8
      have Sz2 : Hid (Sl w8 B8 lp2 d8) := ht8
      clear ht8
      replace hza : w.heap.size < w8.heap.size := lt_of_cell (a := ⟨w.heap.size, 0, none⟩) Ka.out.1
      replace hzb : w.heap.size + 1 < w8.heap.size := lt_of_cell (a := ⟨w.heap.size + 1, 0, none⟩) Kb.out.1
      replace hzd : w4.heap.size < w8.heap.size := lt_of_cell (a := ⟨w4.heap.size, 0, none⟩) Kd.out.1
      replace hzp : w5.heap.size < w8.heap.size := lt_of_cell (a := ⟨w5.heap.size, 0, none⟩) Kp.out.1
      replace hzx : w6.heap.size < w8.heap.size := lt_of_cell (a := ⟨w6.heap.size, 0, none⟩) Kx.out.1
      have hzy : w7.heap.size < w8.heap.size := lt_of_cell (a := ⟨w7.heap.size, 0, none⟩) Ky.out.1
      have hkaz := hza
      have hkbz := hzb
      have hkdz := hzd
      have hkpz := hzp
      have hkxz := hzx
      have hkyz := hzy
      clear Sy1
      clear Sy2
      clear Ky
      clear Sx1
      clear Sx2
      clear Kx
      obtain ⟨qa0, qa1, qa2, qa3⟩ := Ka.out
      go_wp2_with fail
      refine (fneg_any na nb _ _ la lb _ _ _ (Sa1.out.alloc _) (Sa2.out.alloc _)).mono ?_
      rw [E7.out]
      rintro e w9 ⟨A9, c9, B9, d9, rfl, hs9, ht9, hb⟩
      clear qa0 qa1 qa2 qa3
      replace Sa1 : Hid (Sl w9 Aa la ca) := Sl.below (Sa1.out.alloc _) hb
      replace Sa2 : Hid (Sl w9 Ab lb cb) := Sl.below (Sa2.out.alloc _) hb
      replace Sb1 : Hid (Sl w9 Ac lc cc) := Sl.below (Sb1.out.alloc _) hb
      replace Sb2 : Hid (Sl w9 Ad ld cd) := Sl.below (Sb2.out.alloc _) hb
      replace Sd1 : Hid (Sl w9 A4 la c4) := Sl.below (Sd1.out.alloc _) hb
      replace Sd2 : Hid (Sl w9 B4 lb d4) := Sl.below (Sd2.out.alloc _) hb
      replace Sp1 : Hid (Sl w9 A5 lp1 c5) := Sl.below (Sp1.out.alloc _) hb
      replace Sp2 : Hid (Sl w9 B5 lp2 d5) := Sl.below (Sp2.out.alloc _) hb
      replace Sz1 : Hid (Sl w9 A8 lp1 c8) := Sl.below (Sz1.out.alloc _) hb
      replace Sz2 : Hid (Sl w9 B8 lp2 d8) := Sl.below (Sz2.out.alloc _) hb
      replace Ka : Hid (Cf w9 w.heap.size na Aa la.length ca nb Ab lb.length cb) := Cf.keep (Cf.keep Ka.out (blw1 _ _)) hb
      replace Kb : Hid (Cf w9 (w.heap.size + 1) nc Ac lc.length cc nd Ad ld.length cd) := Cf.keep (Cf.keep Kb.out (blw1 _ _)) hb
      replace Kd : Hid (Cf w9 w4.heap.size na A4 la.length c4 nb B4 lb.length d4) := Cf.keep (Cf.keep Kd.out (blw1 _ _)) hb
      replace Kp : Hid (Cf w9 w5.heap.size np1 A5 lp1.length c5 np2 B5 lp2.length d5) := Cf.keep (Cf.keep Kp.out (blw1 _ _)) hb
      have Kz : Hid (Cf w9 w8.heap.size np1 A8 lp1.length c8 np2 B8 lp2.length d8) := Cf.keep (Cf.fresh (by simp) _ _ _ _ _ _ _ _ _) hb
      replace B : Hid (Below w.heap.size w w9) := below_mono (below_mono B.out (blw1 _ _)) hb
      clear hb
      (try dsimp only at hs9 ht9)
      (try dsimp only)
      have Sn1 : Hid (Sl w9 A9 ln c9) := hs9
      clear hs9
      have Sn2 : Hid (Sl w9 B9 lb d9) := ht9
      clear ht9
      replace hza : w.heap.size < w9.heap.size := lt_of_cell (a := ⟨w.heap.size, 0, none⟩) Ka.out.1
      replace hzb : w.heap.size + 1 < w9.heap.size := lt_of_cell (a := ⟨w.heap.size + 1, 0, none⟩) Kb.out.1
      replace hzd : w4.heap.size < w9.heap.size := lt_of_cell (a := ⟨w4.heap.size, 0, none⟩) Kd.out.1
      replace hzp : w5.heap.size < w9.heap.size := lt_of_cell (a := ⟨w5.heap.size, 0, none⟩) Kp.out.1
      have hzz : w8.heap.size < w9.heap.size := lt_of_cell (a := ⟨w8.heap.size, 0, none⟩) Kz.out.1
      have hkan := hza
      have hkbn := hzb
      have hkdn := hzd
      have hkpn := hzp
      have hkzn := hzz
      obtain ⟨qa0, qa1, qa2, qa3⟩ := Ka.out
      go_wp2_with fail
      refine (fadd_good nn nb na nb _ _ _ _ ln lb la lb _ _ _ _ ((congrArg Prod.snd E8.out)) _ (Sn1.out.alloc _) (Sn2.out.alloc _) (Sa1.out.alloc _) (Sa2.out.alloc _)).mono ?_
      rw [E8.out]
      rintro e w10 ⟨A10, c10, B10, d10, rfl, hs10, ht10, hb⟩
      clear qa0 qa1 qa2 qa3
      replace Sa1 : Hid (Sl w10 Aa la ca) := Sl.below (Sa1.out.alloc _) hb
      replace Sa2 : Hid (Sl w10 Ab lb cb) := Sl.below (Sa2.out.alloc _) hb
      replace Sb1 : Hid (Sl w10 Ac lc cc) := Sl.below (Sb1.out.alloc _) hb
      replace Sb2 : Hid (Sl w10 Ad ld cd) := Sl.below (Sb2.out.alloc _) hb
      replace Sd1 : Hid (Sl w10 A4 la c4) := Sl.below (Sd1.out.alloc _) hb
      replace Sd2 : Hid (Sl w10 B4 lb d4) := Sl.below (Sd2.out.alloc _) hb
      replace Sp1 : Hid (Sl w10 A5 lp1 c5) := Sl.below (Sp1.out.alloc _) hb
      replace Sp2 : Hid (Sl w10 B5 lp2 d5) := Sl.below (Sp2.out.alloc _) hb
      replace Sz1 : Hid (Sl w10 A8 lp1 c8) := Sl.below (Sz1.out.alloc _) hb
      replace Sz2 : Hid (Sl w10 B8 lp2 d8) := Sl.below (Sz2.out.alloc _) hb
      replace Sn1 : Hid (Sl w10 A9 ln c9) := Sl.below (Sn1.out.alloc _) hb
      replace Sn2 : Hid (Sl w10 B9 lb d9) := Sl.below (Sn2.out.alloc _) hb
      replace Ka : Hid (Cf w10 w.heap.size na Aa la.length ca nb Ab lb.length cb) := Cf.keep (Cf.keep Ka.out (blw1 _ _)) hb
      replace Kb : Hid (Cf w10 (w.heap.size + 1) nc Ac lc.length cc nd Ad ld.length cd) := Cf.keep (Cf.keep Kb.out (blw1 _ _)) hb
      replace Kd : Hid (Cf w10 w4.heap.size na A4 la.length c4 nb B4 lb.length d4) := Cf.keep (Cf.keep Kd.out (blw1 _ _)) hb
      replace Kp : Hid (Cf w10 w5.heap.size np1 A5 lp1.length c5 np2 B5 lp2.length d5) := Cf.keep (Cf.keep Kp.out (blw1 _ _)) hb
      replace Kz : Hid (Cf w10 w8.heap.size np1 A8 lp1.length c8 np2 B8 lp2.length d8) := Cf.keep (Cf.keep Kz.out (blw1 _ _)) hb
      have Kn : Hid (Cf w10 w9.heap.size nn A9 ln.length c9 nb B9 lb.length d9) := Cf.keep (Cf.fresh (by simp) _ _ _ _ _ _ _ _ _) hb
      replace B : Hid (Below w.heap.size w w10) := below_mono (below_mono B.out (blw1 _ _)) hb
      clear hb
      (try dsimp only at hs10 ht10)
      (try dsimp only)
      have So1 : Hid (Sl w10 A10 lo1 c10) := hs10
      clear hs10
      have So2 : Hid (Sl w10 B10 lo2 d10) := ht10
      clear ht10
      replace hza : w.heap.size < w10.heap.size := lt_of_cell (a := ⟨w.heap.size, 0, none⟩) Ka.out.1
      replace hzb : w.heap.size + 1 < w10.heap.size := lt_of_cell (a := ⟨w.heap.size + 1, 0, none⟩) Kb.out.1
      replace hzd : w4.heap.size < w10.heap.size := lt_of_cell (a := ⟨w4.heap.size, 0, none⟩) Kd.out.1
      replace hzp : w5.heap.size < w10.heap.size := lt_of_cell (a := ⟨w5.heap.size, 0, none⟩) Kp.out.1
      replace hzz : w8.heap.size < w10.heap.size := lt_of_cell (a := ⟨w8.heap.size, 0, none⟩) Kz.out.1
      have hzn : w9.heap.size < w10.heap.size := lt_of_cell (a := ⟨w9.heap.size, 0, none⟩) Kn.out.1
      have hkao := hza
      have hkbo := hzb
      have hkdo := hzd
      have hkpo := hzp
      have hkzo := hzz
      have hkno := hzn
      clear Sn1
      clear Sn2
      clear Kn
      obtain ⟨qd0, qd1, qd2, qd3⟩ := Kd.out
      obtain ⟨qa0, qa1, qa2, qa3⟩ := Ka.out
      go_wp2_with fail
      refine (fsame_eq na nb _ _ _ _ la lb _ _ _ _ _ (Sd1.out.alloc _) (Sd2.out.alloc _) (Sa1.out.alloc _) (Sa2.out.alloc _)).mono ?_
      rintro e w11 ⟨rfl, hb⟩
      clear qd0 qd1 qd2 qd3 qa0 qa1 qa2 qa3
      replace Sa1 : Hid (Sl w11 Aa la ca) := Sl.below (Sa1.out.alloc _) hb
      replace Sa2 : Hid (Sl w11 Ab lb cb) := Sl.below (Sa2.out.alloc _) hb
      replace Sb1 : Hid (Sl w11 Ac lc cc) := Sl.below (Sb1.out.alloc _) hb
      replace Sb2 : Hid (Sl w11 Ad ld cd) := Sl.below (Sb2.out.alloc _) hb
      replace Sd1 : Hid (Sl w11 A4 la c4) := Sl.below (Sd1.out.alloc _) hb
      replace Sd2 : Hid (Sl w11 B4 lb d4) := Sl.below (Sd2.out.alloc _) hb
      replace Sp1 : Hid (Sl w11 A5 lp1 c5) := Sl.below (Sp1.out.alloc _) hb
      replace Sp2 : Hid (Sl w11 B5 lp2 d5) := Sl.below (Sp2.out.alloc _) hb
      replace Sz1 : Hid (Sl w11 A8 lp1 c8) := Sl.below (Sz1.out.alloc _) hb
      replace Sz2 : Hid (Sl w11 B8 lp2 d8) := Sl.below (Sz2.out.alloc _) hb
      replace So1 : Hid (Sl w11 A10 lo1 c10) := Sl.below (So1.out.alloc _) hb
      replace So2 : Hid (Sl w11 B10 lo2 d10) := Sl.below (So2.out.alloc _) hb
      replace Ka : Hid (Cf w11 w.heap.size na Aa la.length ca nb Ab lb.length cb) := Cf.keep (Cf.keep Ka.out (blw1 _ _)) hb
      replace Kb : Hid (Cf w11 (w.heap.size + 1) nc Ac lc.length cc nd Ad ld.length cd) := Cf.keep (Cf.keep Kb.out (blw1 _ _)) hb
      replace Kd : Hid (Cf w11 w4.heap.size na A4 la.length c4 nb B4 lb.length d4) := Cf.keep (Cf.keep Kd.out (blw1 _ _)) hb
      replace Kp : Hid (Cf w11 w5.heap.size np1 A5 lp1.length c5 np2 B5 lp2.length d5) := Cf.keep (Cf.keep Kp.out (blw1 _ _)) hb
      replace Kz : Hid (Cf w11 w8.heap.size np1 A8 lp1.length c8 np2 B8 lp2.length d8) := Cf.keep (Cf.keep Kz.out (blw1 _ _)) hb
      have Ko : Hid (Cf w11 w10.heap.size no1 A10 lo1.length c10 no2 B10 lo2.length d10) := Cf.keep (Cf.fresh (by simp) _ _ _ _ _ _ _ _ _) hb
      replace B : Hid (Below w.heap.size w w11) := below_mono (below_mono B.out (blw1 _ _)) hb
      clear hb
      replace hza : w.heap.size < w11.heap.size := lt_of_cell (a := ⟨w.heap.size, 0, none⟩) Ka.out.1
      replace hzb : w.heap.size + 1 < w11.heap.size := lt_of_cell (a := ⟨w.heap.size + 1, 0, none⟩) Kb.out.1
      replace hzd : w4.heap.size < w11.heap.size := lt_of_cell (a := ⟨w4.heap.size, 0, none⟩) Kd.out.1
      replace hzp : w5.heap.size < w11.heap.size := lt_of_cell (a := ⟨w5.heap.size, 0, none⟩) Kp.out.1
      replace hzz : w8.heap.size < w11.heap.size := lt_of_cell (a := ⟨w8.heap.size, 0, none⟩) Kz.out.1
      have hzo : w10.heap.size < w11.heap.size := lt_of_cell (a := ⟨w10.heap.size, 0, none⟩) Ko.out.1
      clear Sd1
      clear Sd2
      clear Kd
      obtain ⟨qp0, qp1, qp2, qp3⟩ := Kp.out
      obtain ⟨qz0, qz1, qz2, qz3⟩ := Kz.out
      go_wp2_with fail
      refine (fsame_eq np1 np2 _ _ _ _ lp1 lp2 _ _ _ _ _ Sp1.out Sp2.out Sz1.out Sz2.out).mono ?_
      rintro e w12 ⟨rfl, hb⟩
      clear qp0 qp1 qp2 qp3 qz0 qz1 qz2 qz3
      replace Sa1 : Hid (Sl w12 Aa la ca) := Sl.below Sa1.out hb
      replace Sa2 : Hid (Sl w12 Ab lb cb) := Sl.below Sa2.out hb
      replace Sb1 : Hid (Sl w12 Ac lc cc) := Sl.below Sb1.out hb
      replace Sb2 : Hid (Sl w12 Ad ld cd) := Sl.below Sb2.out hb
      replace Sp1 : Hid (Sl w12 A5 lp1 c5) := Sl.below Sp1.out hb
      replace Sp2 : Hid (Sl w12 B5 lp2 d5) := Sl.below Sp2.out hb
      replace Sz1 : Hid (Sl w12 A8 lp1 c8) := Sl.below Sz1.out hb
      replace Sz2 : Hid (Sl w12 B8 lp2 d8) := Sl.below Sz2.out hb
      replace So1 : Hid (Sl w12 A10 lo1 c10) := Sl.below So1.out hb
      replace So2 : Hid (Sl w12 B10 lo2 d10) := Sl.below So2.out hb
      replace Ka : Hid (Cf w12 w.heap.size na Aa la.length ca nb Ab lb.length cb) := Cf.keep Ka.out hb
      replace Kb : Hid (Cf w12 (w.heap.size + 1) nc Ac lc.length cc nd Ad ld.length cd) := Cf.keep Kb.out hb
      replace Kp : Hid (Cf w12 w5.heap.size np1 A5 lp1.length c5 np2 B5 lp2.length d5) := Cf.keep Kp.out hb
      replace Kz : Hid (Cf w12 w8.heap.size np1 A8 lp1.length c8 np2 B8 lp2.length d8) := Cf.keep Kz.out hb
      replace Ko : Hid (Cf w12 w10.heap.size no1 A10 lo1.length c10 no2 B10 lo2.length d10) := Cf.keep Ko.out hb
      replace B : Hid (Below w.heap.size w w12) := below_mono B.out hb
      clear hb
      replace hza : w.heap.size < w12.heap.size := lt_of_cell (a := ⟨w.heap.size, 0, none⟩) Ka.out.1
      replace hzb : w.heap.size + 1 < w12.heap.size := lt_of_cell (a := ⟨w.heap.size + 1, 0, none⟩) Kb.out.1
      replace hzp : w5.heap.size < w12.heap.size := lt_of_cell (a := ⟨w5.heap.size, 0, none⟩) Kp.out.1
      replace hzz : w8.heap.size < w12.heap.size := lt_of_cell (a := ⟨w8.heap.size, 0, none⟩) Kz.out.1
      replace hzo : w10.heap.size < w12.heap.size := lt_of_cell (a := ⟨w10.heap.size, 0, none⟩) Ko.out.1
      clear Sz1
      clear Sz2
      clear Kz
      obtain ⟨qo0, qo1, qo2, qo3⟩ := Ko.out
      go_wp2_with fail
      refine (lsame_true no1 no2 _ _ lo1 lo2 _ _ 0 1 (by omega) (by omega) (by omega) (by omega) h01.out _ So1.out So2.out).mono ?_
      rintro e w13 ⟨rfl, hb⟩
      clear qo0 qo1 qo2 qo3
      replace Sa1 : Hid (Sl w13 Aa la ca) := Sl.below Sa1.out hb
      replace Sa2 : Hid (Sl w13 Ab lb cb) := Sl.below Sa2.out hb
      replace Sb1 : Hid (Sl w13 Ac lc cc) := Sl.below Sb1.out hb
      replace Sb2 : Hid (Sl w13 Ad ld cd) := Sl.below Sb2.out hb
      replace Sp1 : Hid (Sl w13 A5 lp1 c5) := Sl.below Sp1.out hb
      replace Sp2 : Hid (Sl w13 B5 lp2 d5) := Sl.below Sp2.out hb
      replace So1 : Hid (Sl w13 A10 lo1 c10) := Sl.below So1.out hb
      replace So2 : Hid (Sl w13 B10 lo2 d10) := Sl.below So2.out hb
      replace Ka : Hid (Cf w13 w.heap.size na Aa la.length ca nb Ab lb.length cb) := Cf.keep Ka.out hb
      replace Kb : Hid (Cf w13 (w.heap.size + 1) nc Ac lc.length cc nd Ad ld.length cd) := Cf.keep Kb.out hb
      replace Kp : Hid (Cf w13 w5.heap.size np1 A5 lp1.length c5 np2 B5 lp2.length d5) := Cf.keep Kp.out hb
      replace Ko : Hid (Cf w13 w10.heap.size no1 A10 lo1.length c10 no2 B10 lo2.length d10) := Cf.keep Ko.out hb
      replace B : Hid (Below w.heap.size w w13) := below_mono B.out hb
      clear hb
      replace hza : w.heap.size < w13.heap.size := lt_of_cell (a := ⟨w.heap.size, 0, none⟩) Ka.out.1
      replace hzb : w.heap.size + 1 < w13.heap.size := lt_of_cell (a := ⟨w.heap.size + 1, 0, none⟩) Kb.out.1
      replace hzp : w5.heap.size < w13.heap.size := lt_of_cell (a := ⟨w5.heap.size, 0, none⟩) Kp.out.1
      replace hzo : w10.heap.size < w13.heap.size := lt_of_cell (a := ⟨w10.heap.size, 0, none⟩) Ko.out.1
      clear So1
      clear So2
      clear Ko
      obtain ⟨qp0, qp1, qp2, qp3⟩ := Kp.out
      go_wp2_with fail
      refine (rfcheck_any np1 np2 _ _ lp1 lp2 _ _ _ Sp1.out Sp2.out).mono ?_
      rw [E9.out]
      rintro e w14 ⟨rfl, hb⟩
      clear qp0 qp1 qp2 qp3
      replace Sa1 : Hid (Sl w14 Aa la ca) := Sl.below Sa1.out hb
      replace Sa2 : Hid (Sl w14 Ab lb cb) := Sl.below Sa2.out hb
      replace Sb1 : Hid (Sl w14 Ac lc cc) := Sl.below Sb1.out hb
      replace Sb2 : Hid (Sl w14 Ad ld cd) := Sl.below Sb2.out hb
      replace Sp1 : Hid (Sl w14 A5 lp1 c5) := Sl.below Sp1.out hb
      replace Sp2 : Hid (Sl w14 B5 lp2 d5) := Sl.below Sp2.out hb
      replace Ka : Hid (Cf w14 w.heap.size na Aa la.length ca nb Ab lb.length cb) := Cf.keep Ka.out hb
      replace Kb : Hid (Cf w14 (w.heap.size + 1) nc Ac lc.length cc nd Ad ld.length cd) := Cf.keep Kb.out hb
      replace Kp : Hid (Cf w14 w5.heap.size np1 A5 lp1.length c5 np2 B5 lp2.length d5) := Cf.keep Kp.out hb
      replace B : Hid (Below w.heap.size w w14) := below_mono B.out hb
      clear hb
      replace hza : w.heap.size < w14.heap.size := lt_of_cell (a := ⟨w.heap.size, 0, none⟩) Ka.out.1
      replace hzb : w.heap.size + 1 < w14.heap.size := lt_of_cell (a := ⟨w.heap.size + 1, 0, none⟩) Kb.out.1
      replace hzp : w5.heap.size < w14.heap.size := lt_of_cell (a := ⟨w5.heap.size, 0, none⟩) Kp.out.1
      clear Sp1
      clear Sp2
      clear Kp
      obtain ⟨qa0, qa1, qa2, qa3⟩ := Ka.out
      obtain ⟨qb0, qb1, qb2, qb3⟩ := Kb.out
      go_wp2_with fail
      refine (fdiv_good na nb nc nd _ _ _ _ la lb lc ld _ _ _ _ (.inl (congrArg Prod.snd Q1.out)) _ Sa1.out Sa2.out Sb1.out Sb2.out).mono ?_
      rw [Q1.out]
      rintro e w15 ⟨A15, c15, B15, d15, rfl, hs15, ht15, hb⟩
      clear qa0 qa1 qa2 qa3 qb0 qb1 qb2 qb3
      replace Sa1 : Hid (Sl w15 Aa la ca) := Sl.below Sa1.out hb
      replace Sa2 : Hid (Sl w15 Ab lb cb) := Sl.below Sa2.out hb
      replace Sb1 : Hid (Sl w15 Ac lc cc) := Sl.below Sb1.out hb
      replace Sb2 : Hid (Sl w15 Ad ld cd) := Sl.below Sb2.out hb
      replace Ka : Hid (Cf w15 w.heap.size na Aa la.length ca nb Ab lb.length cb) := Cf.keep Ka.out hb
      replace Kb : Hid (Cf w15 (w.heap.size + 1) nc Ac lc.length cc nd Ad ld.length cd) := Cf.keep Kb.out hb
      replace B : Hid (Below w.heap.size w w15) := below_mono B.out hb
      clear hb
      (try dsimp only at hs15 ht15)
      (try dsimp only)
      have Sq1 : Hid (Sl w15 A15 lq1 c15) := hs15
      clear hs15
      have Sq2 : Hid (Sl w15 B15 lq2 d15) := ht15
      clear ht15
      replace hza : w.heap.size < w15.heap.size := lt_of_cell (a := ⟨w.heap.size, 0, none⟩) Ka.out.1
      replace hzb : w.heap.size + 1 < w15.heap.size := lt_of_cell (a := ⟨w.heap.size + 1, 0, none⟩) Kb.out.1
      have hkaq := hza
      have hkbq := hzb
      obtain ⟨qb0, qb1, qb2, qb3⟩ := Kb.out
      go_wp2_with fail
      refine (fmul_good nq1 nq2 nc nd _ _ _ _ lq1 lq2 lc ld _ _ _ _ ((congrArg Prod.snd Q2.out)) _ (Sq1.out.alloc _) (Sq2.out.alloc _) (Sb1.out.alloc _) (Sb2.out.alloc _)).mono ?_
      rw [Q2.out]
      rintro e w16 ⟨A16, c16, B16, d16, rfl, hs16, ht16, hb⟩
      clear qb0 qb1 qb2 qb3
      replace Sa1 : Hid (Sl w16 Aa la ca) := Sl.below (Sa1.out.alloc _) hb
      replace Sa2 : Hid (Sl w16 Ab lb cb) := Sl.below (Sa2.out.alloc _) hb
      replace Sb1 : Hid (Sl w16 Ac lc cc) := Sl.below (Sb1.out.alloc _) hb
      replace Sb2 : Hid (Sl w16 Ad ld cd) := Sl.below (Sb2.out.alloc _) hb
      replace Sq1 : Hid (Sl w16 A15 lq1 c15) := Sl.below (Sq1.out.alloc _) hb
      replace Sq2 : Hid (Sl w16 B15 lq2 d15) := Sl.below (Sq2.out.alloc _) hb
      replace Ka : Hid (Cf w16 w.heap.size na Aa la.length ca nb Ab lb.length cb) := Cf.keep (Cf.keep Ka.out (blw1 _ _)) hb
      replace Kb : Hid (Cf w16 (w.heap.size + 1) nc Ac lc.length cc nd Ad ld.length cd) := Cf.keep (Cf.keep Kb.out (blw1 _ _)) hb
      have Kq : Hid (Cf w16 w15.heap.size nq1 A15 lq1.length c15 nq2 B15 lq2.length d15) := Cf.keep (Cf.fresh (by simp) _ _ _ _ _ _ _ _ _) hb
      replace B : Hid (Below w.heap.size w w16) := below_mono (below_mono B.out (blw1 _ _)) hb
      clear hb
      (try dsimp only at hs16 ht16)
      (try dsimp only)
      have Sr1 : Hid (Sl w16 A16 la c16) := hs16
      clear hs16
      have Sr2 : Hid (Sl w16 B16 lb d16) := ht16
      clear ht16
      replace hza : w.heap.size < w16.heap.size := lt_of_cell (a := ⟨w.heap.size, 0, none⟩) Ka.out.1
      replace hzb : w.heap.size + 1 < w16.heap.size := lt_of_cell (a := ⟨w.heap.size + 1, 0, none⟩) Kb.out.1
      have hzq : w15.heap.size < w16.heap.size := lt_of_cell (a := ⟨w15.heap.size, 0, none⟩) Kq.out.1
      have hkar := hza
      have hkbr := hzb
      have hkqr := hzq
      clear Sq1
      clear Sq2
      clear Kq
      obtain ⟨qa0, qa1, qa2, qa3⟩ := Ka.out
      go_wp2_with fail
      refine (fsame_eq na nb _ _ _ _ la lb _ _ _ _ _ (Sr1.out.alloc _) (Sr2.out.alloc _) (Sa1.out.alloc _) (Sa2.out.alloc _)).mono ?_
      rintro e w17 ⟨rfl, hb⟩
      clear qa0 qa1 qa2 qa3
      replace Sa1 : Hid (Sl w17 Aa la ca) := Sl.below (Sa1.out.alloc _) hb
      replace Sa2 : Hid (Sl w17 Ab lb cb) := Sl.below (Sa2.out.alloc _) hb
      replace Sb1 : Hid (Sl w17 Ac lc cc) := Sl.below (Sb1.out.alloc _) hb
      replace Sb2 : Hid (Sl w17 Ad ld cd) := Sl.below (Sb2.out.alloc _) hb
      replace Sr1 : Hid (Sl w17 A16 la c16) := Sl.below (Sr1.out.alloc _) hb
      replace Sr2 : Hid (Sl w17 B16 lb d16) := Sl.below (Sr2.out.alloc _) hb
      replace Ka : Hid (Cf w17 w.heap.size na Aa la.length ca nb Ab lb.length cb) := Cf.keep (Cf.keep Ka.out (blw1 _ _)) hb
      replace Kb : Hid (Cf w17 (w.heap.size + 1) nc Ac lc.length cc nd Ad ld.length cd) := Cf.keep (Cf.keep Kb.out (blw1 _ _)) hb
      have Kr : Hid (Cf w17 w16.heap.size na A16 la.length c16 nb B16 lb.length d16) := Cf.keep (Cf.fresh (by simp) _ _ _ _ _ _ _ _ _) hb
      replace B : Hid (Below w.heap.size w w17) := below_mono (below_mono B.out (blw1 _ _)) hb
      clear hb
      replace hza : w.heap.size < w17.heap.size := lt_of_cell (a := ⟨w.heap.size, 0, none⟩) Ka.out.1
      replace hzb : w.heap.size + 1 < w17.heap.size := lt_of_cell (a := ⟨w.heap.size + 1, 0, none⟩) Kb.out.1
      have hzr : w16.heap.size < w17.heap.size := lt_of_cell (a := ⟨w16.heap.size, 0, none⟩) Kr.out.1
      go_wp2
      go_ret
      exact ⟨rfl, B.out⟩

end Go.Proofs.YtmelbahbjdogdaaGreatDoor

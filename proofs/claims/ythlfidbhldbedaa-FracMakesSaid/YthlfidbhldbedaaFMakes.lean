/- The walk of the law FracMakes. -/
import Derived.Test.YthlfidbhldbedaaF5
import Derived.Deep.RegionHeld3
namespace Go.Proofs.Ythlfidbhldbedaa
open Go.RowKit
attribute [local go_sem ↓] Go.wp_at_zero Go.wp_at_succ
theorem fsame_self (n1 n2 : Bool) (A1 A2 A3 A4 : Option Addr) (l1 l2 : List Nat) (c1 c2 c3 c4 : Nat) (w : World) (hs1 : Sl w A1 l1 c1) (hs2 : Sl w A2 l2 c2) (hs3 : Sl w A3 l1 c3) (hs4 : Sl w A4 l2 c4) :
    Calls Try.prog 12 #[.agg #[.bool n1, .slice A1 l1.length c1, .bool n2, .slice A2 l2.length c2], .agg #[.bool n1, .slice A3 l1.length c3, .bool n2, .slice A4 l2.length c4]] w fun e w' => e = .returned (.bool true) ∧ Below w.heap.size w w' := by
  have h := fsameF_any n1 n2 n1 n2 A1 A2 A3 A4 l1 l2 l1 l2 c1 c2 c3 c4 w hs1 hs2 hs3 hs4
  rw [show (sameB n1 l1 n1 l1 && sameB n2 l2 n2 l2) = true by simp [sameB]] at h
  exact h

set_option maxRecDepth 100000 in
set_option maxHeartbeats 4000000 in
theorem fracMakes_walk (na nb nc nd : Bool) (Aa Ab Ac Ad : Option Addr) (la lb lc ld : List Nat) (ca cb cc cd : Nat) (n m : Int) (hn1 : -9223372036854775808 ≤ n) (hn2 : n ≤ 9223372036854775807) (hm1 : -9223372036854775808 ≤ m) (hm2 : m ≤ 9223372036854775807) (w : World) (hsa : Sl w Aa la ca) (hsb : Sl w Ab lb cb) (hsc : Sl w Ac lc cc) (hsd : Sl w Ad ld cd) :
    Calls Try.prog 3 #[.agg #[.bool na, .slice Aa la.length ca, .bool nb, .slice Ab lb.length cb], .agg #[.bool nc, .slice Ac lc.length cc], .agg #[.bool nd, .slice Ad ld.length cd], .int .i64 n, .int .i64 m] w fun e w' => e = .returned (.bool true) ∧ Below w.heap.size w w' := by
  have Sa := Lib.hid hsa
  have Sb := Lib.hid hsb
  have Sc := Lib.hid hsc
  have Sd := Lib.hid hsd
  have B : Hid (Below w.heap.size w w) := Below.refl _ _
  clear hsa hsb hsc hsd
  cases hG : greatF la lb with
  | true =>
    have G := Lib.hid hG
    clear hG
    go_enter Try.func3, Try.ntmps3
    go_wp2_with fail
    refine (fgreat_any na nb Aa Ab la lb ca cb _).mono ?_
    rw [G.out]
    rintro e w1 ⟨rfl, hb⟩
    have Ka' : Hid (Cf w1 w.heap.size na Aa la.length ca nb Ab lb.length cb) := Cf.keep (Cf.keep (Cf.keep (Cf.fresh (by simp) _ _ _ _ _ _ _ _ _) (blw1 _ _)) (blw1 _ _)) hb
    have Kc' : Hid (Cw w1 (w.heap.size + 1) nc Ac lc.length cc) := Cw.keep (Cw.keep (Cw.fresh (by simp) _ _ _ _ _) (blw1 _ _)) hb
    have Kd' : Hid (Cw w1 (w.heap.size + 1 + 1) nd Ad ld.length cd) := Cw.keep (Cw.fresh (by simp) _ _ _ _ _) hb
    have Sa' : Hid (Sl w1 Aa la ca) := Sl.below (((Sa.out.alloc _).alloc _).alloc _) hb
    have Sb' : Hid (Sl w1 Ab lb cb) := Sl.below (((Sb.out.alloc _).alloc _).alloc _) hb
    have Sc' : Hid (Sl w1 Ac lc cc) := Sl.below (((Sc.out.alloc _).alloc _).alloc _) hb
    have Sd' : Hid (Sl w1 Ad ld cd) := Sl.below (((Sd.out.alloc _).alloc _).alloc _) hb
    have B' : Hid (Below w.heap.size w w1) := below_mono (below_mono (below_mono (below_mono B.out (blw1 _ _)) (blw1 _ _)) (blw1 _ _)) hb
    clear hb Sa Sb Sc Sd B
    have Ka := Ka'
    have Kc := Kc'
    have Kd := Kd'
    have Sa := Sa'
    have Sb := Sb'
    have Sc := Sc'
    have Sd := Sd'
    have B := B'
    clear Ka' Kc' Kd' Sa' Sb' Sc' Sd' B'
    obtain ⟨qa0, qa1, qa2, qa3⟩ := Ka.out
    obtain ⟨qc0, qc1⟩ := Kc.out
    obtain ⟨qd0, qd1⟩ := Kd.out
    have hza : w.heap.size < w1.heap.size := lt_of_cell (a := ⟨w.heap.size, 0, none⟩) Ka.out.1
    have hzc : w.heap.size + 1 < w1.heap.size := lt_of_cell (a := ⟨w.heap.size + 1, 0, none⟩) Kc.out.1
    have hzd : w.heap.size + 1 + 1 < w1.heap.size := lt_of_cell (a := ⟨w.heap.size + 1 + 1, 0, none⟩) Kd.out.1
    go_wp2
    go_ret
    exact ⟨rfl, B.out⟩
  | false =>
    have G := Lib.hid hG
    clear hG
    by_cases h1 : 130 < lc.length
    · go_enter Try.func3, Try.ntmps3
      go_wp2_with fail
      refine (fgreat_any na nb Aa Ab la lb ca cb _).mono ?_
      rw [G.out]
      rintro e w1 ⟨rfl, hb⟩
      have Ka' : Hid (Cf w1 w.heap.size na Aa la.length ca nb Ab lb.length cb) := Cf.keep (Cf.keep (Cf.keep (Cf.fresh (by simp) _ _ _ _ _ _ _ _ _) (blw1 _ _)) (blw1 _ _)) hb
      have Kc' : Hid (Cw w1 (w.heap.size + 1) nc Ac lc.length cc) := Cw.keep (Cw.keep (Cw.fresh (by simp) _ _ _ _ _) (blw1 _ _)) hb
      have Kd' : Hid (Cw w1 (w.heap.size + 1 + 1) nd Ad ld.length cd) := Cw.keep (Cw.fresh (by simp) _ _ _ _ _) hb
      have Sa' : Hid (Sl w1 Aa la ca) := Sl.below (((Sa.out.alloc _).alloc _).alloc _) hb
      have Sb' : Hid (Sl w1 Ab lb cb) := Sl.below (((Sb.out.alloc _).alloc _).alloc _) hb
      have Sc' : Hid (Sl w1 Ac lc cc) := Sl.below (((Sc.out.alloc _).alloc _).alloc _) hb
      have Sd' : Hid (Sl w1 Ad ld cd) := Sl.below (((Sd.out.alloc _).alloc _).alloc _) hb
      have B' : Hid (Below w.heap.size w w1) := below_mono (below_mono (below_mono (below_mono B.out (blw1 _ _)) (blw1 _ _)) (blw1 _ _)) hb
      clear hb Sa Sb Sc Sd B
      have Ka := Ka'
      have Kc := Kc'
      have Kd := Kd'
      have Sa := Sa'
      have Sb := Sb'
      have Sc := Sc'
      have Sd := Sd'
      have B := B'
      clear Ka' Kc' Kd' Sa' Sb' Sc' Sd' B'
      obtain ⟨qa0, qa1, qa2, qa3⟩ := Ka.out
      obtain ⟨qc0, qc1⟩ := Kc.out
      obtain ⟨qd0, qd1⟩ := Kd.out
      have hza : w.heap.size < w1.heap.size := lt_of_cell (a := ⟨w.heap.size, 0, none⟩) Ka.out.1
      have hzc : w.heap.size + 1 < w1.heap.size := lt_of_cell (a := ⟨w.heap.size + 1, 0, none⟩) Kc.out.1
      have hzd : w.heap.size + 1 + 1 < w1.heap.size := lt_of_cell (a := ⟨w.heap.size + 1 + 1, 0, none⟩) Kd.out.1
      go_wp2
      go_ret
      exact ⟨rfl, B.out⟩
    · by_cases h2 : 130 < ld.length
      · go_enter Try.func3, Try.ntmps3
        go_wp2_with fail
        refine (fgreat_any na nb Aa Ab la lb ca cb _).mono ?_
        rw [G.out]
        rintro e w1 ⟨rfl, hb⟩
        have Ka' : Hid (Cf w1 w.heap.size na Aa la.length ca nb Ab lb.length cb) := Cf.keep (Cf.keep (Cf.keep (Cf.fresh (by simp) _ _ _ _ _ _ _ _ _) (blw1 _ _)) (blw1 _ _)) hb
        have Kc' : Hid (Cw w1 (w.heap.size + 1) nc Ac lc.length cc) := Cw.keep (Cw.keep (Cw.fresh (by simp) _ _ _ _ _) (blw1 _ _)) hb
        have Kd' : Hid (Cw w1 (w.heap.size + 1 + 1) nd Ad ld.length cd) := Cw.keep (Cw.fresh (by simp) _ _ _ _ _) hb
        have Sa' : Hid (Sl w1 Aa la ca) := Sl.below (((Sa.out.alloc _).alloc _).alloc _) hb
        have Sb' : Hid (Sl w1 Ab lb cb) := Sl.below (((Sb.out.alloc _).alloc _).alloc _) hb
        have Sc' : Hid (Sl w1 Ac lc cc) := Sl.below (((Sc.out.alloc _).alloc _).alloc _) hb
        have Sd' : Hid (Sl w1 Ad ld cd) := Sl.below (((Sd.out.alloc _).alloc _).alloc _) hb
        have B' : Hid (Below w.heap.size w w1) := below_mono (below_mono (below_mono (below_mono B.out (blw1 _ _)) (blw1 _ _)) (blw1 _ _)) hb
        clear hb Sa Sb Sc Sd B
        have Ka := Ka'
        have Kc := Kc'
        have Kd := Kd'
        have Sa := Sa'
        have Sb := Sb'
        have Sc := Sc'
        have Sd := Sd'
        have B := B'
        clear Ka' Kc' Kd' Sa' Sb' Sc' Sd' B'
        obtain ⟨qa0, qa1, qa2, qa3⟩ := Ka.out
        obtain ⟨qc0, qc1⟩ := Kc.out
        obtain ⟨qd0, qd1⟩ := Kd.out
        have hza : w.heap.size < w1.heap.size := lt_of_cell (a := ⟨w.heap.size, 0, none⟩) Ka.out.1
        have hzc : w.heap.size + 1 < w1.heap.size := lt_of_cell (a := ⟨w.heap.size + 1, 0, none⟩) Kc.out.1
        have hzd : w.heap.size + 1 + 1 < w1.heap.size := lt_of_cell (a := ⟨w.heap.size + 1 + 1, 0, none⟩) Kd.out.1
        go_wp2
        go_ret
        exact ⟨rfl, B.out⟩
      · obtain ⟨⟨⟨⟨nx, lx⟩, ⟨ny, ly⟩⟩, kx⟩, hx⟩ : ∃ r, ofS n m = r := ⟨_, rfl⟩
        obtain ⟨⟨⟨⟨np, lp⟩, ⟨nq, lq⟩⟩, kp⟩, hp⟩ : ∃ r, makeS nc lc nd ld = r := ⟨_, rfl⟩
        obtain ⟨k, hk⟩ : ∃ k, chkF na la nb lb = k := ⟨_, rfl⟩
        have OX : Hid (∀ W, Calls Try.prog 6 #[.int .i64 n, .int .i64 m] W (FRes (((nx, lx), (ny, ly)), kx) W)) := fun W => by rw [← hx]; exact of_any n m hn1 hn2 hm1 hm2 W
        have OY : Hid (∀ W, Calls Try.prog 7 #[.int .i64 n, .int .i64 m] W (FRes (((nx, lx), (ny, ly)), kx) W)) := fun W => by rw [← hx]; exact rof_any n m hn1 hn2 hm1 hm2 W
        have HP := Lib.hid hp
        have HK := Lib.hid hk
        clear hx hp hk hn1 hn2 hm1 hm2
        go_enter Try.func3, Try.ntmps3
        go_wp2_with fail
        refine (fgreat_any na nb Aa Ab la lb ca cb _).mono ?_
        rw [G.out]
        rintro e w1 ⟨rfl, hb⟩
        have Ka' : Hid (Cf w1 w.heap.size na Aa la.length ca nb Ab lb.length cb) := Cf.keep (Cf.keep (Cf.keep (Cf.fresh (by simp) _ _ _ _ _ _ _ _ _) (blw1 _ _)) (blw1 _ _)) hb
        have Kc' : Hid (Cw w1 (w.heap.size + 1) nc Ac lc.length cc) := Cw.keep (Cw.keep (Cw.fresh (by simp) _ _ _ _ _) (blw1 _ _)) hb
        have Kd' : Hid (Cw w1 (w.heap.size + 1 + 1) nd Ad ld.length cd) := Cw.keep (Cw.fresh (by simp) _ _ _ _ _) hb
        have Sa' : Hid (Sl w1 Aa la ca) := Sl.below (((Sa.out.alloc _).alloc _).alloc _) hb
        have Sb' : Hid (Sl w1 Ab lb cb) := Sl.below (((Sb.out.alloc _).alloc _).alloc _) hb
        have Sc' : Hid (Sl w1 Ac lc cc) := Sl.below (((Sc.out.alloc _).alloc _).alloc _) hb
        have Sd' : Hid (Sl w1 Ad ld cd) := Sl.below (((Sd.out.alloc _).alloc _).alloc _) hb
        have B' : Hid (Below w.heap.size w w1) := below_mono (below_mono (below_mono (below_mono B.out (blw1 _ _)) (blw1 _ _)) (blw1 _ _)) hb
        clear hb Sa Sb Sc Sd B
        have Ka := Ka'
        have Kc := Kc'
        have Kd := Kd'
        have Sa := Sa'
        have Sb := Sb'
        have Sc := Sc'
        have Sd := Sd'
        have B := B'
        clear Ka' Kc' Kd' Sa' Sb' Sc' Sd' B'
        obtain ⟨qa0, qa1, qa2, qa3⟩ := Ka.out
        obtain ⟨qc0, qc1⟩ := Kc.out
        obtain ⟨qd0, qd1⟩ := Kd.out
        have hza : w.heap.size < w1.heap.size := lt_of_cell (a := ⟨w.heap.size, 0, none⟩) Ka.out.1
        have hzc : w.heap.size + 1 < w1.heap.size := lt_of_cell (a := ⟨w.heap.size + 1, 0, none⟩) Kc.out.1
        have hzd : w.heap.size + 1 + 1 < w1.heap.size := lt_of_cell (a := ⟨w.heap.size + 1 + 1, 0, none⟩) Kd.out.1
        go_wp2_with fail
        refine (OX.out _).mono ?_
        rintro e w2 ⟨A2, c2, B2, d2, rfl, hsx, hsy, hb⟩
        clear qa0 qa1 qa2 qa3 qc0 qc1 qd0 qd1
        have Ka' : Hid (Cf w2 w.heap.size na Aa la.length ca nb Ab lb.length cb) := Cf.keep Ka.out hb
        have Kc' : Hid (Cw w2 (w.heap.size + 1) nc Ac lc.length cc) := Cw.keep Kc.out hb
        have Kd' : Hid (Cw w2 (w.heap.size + 1 + 1) nd Ad ld.length cd) := Cw.keep Kd.out hb
        have Sa' : Hid (Sl w2 Aa la ca) := Sl.below Sa.out hb
        have Sb' : Hid (Sl w2 Ab lb cb) := Sl.below Sb.out hb
        have Sc' : Hid (Sl w2 Ac lc cc) := Sl.below Sc.out hb
        have Sd' : Hid (Sl w2 Ad ld cd) := Sl.below Sd.out hb
        have B' : Hid (Below w.heap.size w w2) := below_mono B.out hb
        clear hb Ka Kc Kd Sa Sb Sc Sd B
        have Ka := Ka'
        have Kc := Kc'
        have Kd := Kd'
        have Sa := Sa'
        have Sb := Sb'
        have Sc := Sc'
        have Sd := Sd'
        have B := B'
        clear Ka' Kc' Kd' Sa' Sb' Sc' Sd' B'
        (try dsimp only at hsx hsy)
        (try dsimp only)
        have Sx : Hid (Sl w2 A2 lx c2) := hsx
        clear hsx
        have Sy : Hid (Sl w2 B2 ly d2) := hsy
        clear hsy
        obtain ⟨qa0, qa1, qa2, qa3⟩ := Ka.out
        obtain ⟨qc0, qc1⟩ := Kc.out
        obtain ⟨qd0, qd1⟩ := Kd.out
        replace hza : w.heap.size < w2.heap.size := lt_of_cell (a := ⟨w.heap.size, 0, none⟩) Ka.out.1
        replace hzc : w.heap.size + 1 < w2.heap.size := lt_of_cell (a := ⟨w.heap.size + 1, 0, none⟩) Kc.out.1
        replace hzd : w.heap.size + 1 + 1 < w2.heap.size := lt_of_cell (a := ⟨w.heap.size + 1 + 1, 0, none⟩) Kd.out.1
        have hkax := hza
        have hkcx := hzc
        have hkdx := hzd
        go_wp2_with fail
        refine (OY.out _).mono ?_
        rintro e w3 ⟨A3, c3, B3, d3, rfl, hsu, hsv, hb⟩
        clear qa0 qa1 qa2 qa3 qc0 qc1 qd0 qd1
        have Ka' : Hid (Cf w3 w.heap.size na Aa la.length ca nb Ab lb.length cb) := Cf.keep (Cf.keep Ka.out (blw1 _ _)) hb
        have Kc' : Hid (Cw w3 (w.heap.size + 1) nc Ac lc.length cc) := Cw.keep (Cw.keep Kc.out (blw1 _ _)) hb
        have Kd' : Hid (Cw w3 (w.heap.size + 1 + 1) nd Ad ld.length cd) := Cw.keep (Cw.keep Kd.out (blw1 _ _)) hb
        have Kx' : Hid (Cf w3 w2.heap.size nx A2 lx.length c2 ny B2 ly.length d2) := Cf.keep (Cf.fresh (by simp) _ _ _ _ _ _ _ _ _) hb
        have Sa' : Hid (Sl w3 Aa la ca) := Sl.below (Sa.out.alloc _) hb
        have Sb' : Hid (Sl w3 Ab lb cb) := Sl.below (Sb.out.alloc _) hb
        have Sc' : Hid (Sl w3 Ac lc cc) := Sl.below (Sc.out.alloc _) hb
        have Sd' : Hid (Sl w3 Ad ld cd) := Sl.below (Sd.out.alloc _) hb
        have Sx' : Hid (Sl w3 A2 lx c2) := Sl.below (Sx.out.alloc _) hb
        have Sy' : Hid (Sl w3 B2 ly d2) := Sl.below (Sy.out.alloc _) hb
        have B' : Hid (Below w.heap.size w w3) := below_mono (below_mono B.out (blw1 _ _)) hb
        clear hb Ka Kc Kd Sa Sb Sc Sd Sx Sy B
        have Ka := Ka'
        have Kc := Kc'
        have Kd := Kd'
        have Kx := Kx'
        have Sa := Sa'
        have Sb := Sb'
        have Sc := Sc'
        have Sd := Sd'
        have Sx := Sx'
        have Sy := Sy'
        have B := B'
        clear Ka' Kc' Kd' Kx' Sa' Sb' Sc' Sd' Sx' Sy' B'
        (try dsimp only at hsu hsv)
        (try dsimp only)
        have Su : Hid (Sl w3 A3 lx c3) := hsu
        clear hsu
        have Sv : Hid (Sl w3 B3 ly d3) := hsv
        clear hsv
        obtain ⟨qa0, qa1, qa2, qa3⟩ := Ka.out
        obtain ⟨qc0, qc1⟩ := Kc.out
        obtain ⟨qd0, qd1⟩ := Kd.out
        replace hza : w.heap.size < w3.heap.size := lt_of_cell (a := ⟨w.heap.size, 0, none⟩) Ka.out.1
        replace hzc : w.heap.size + 1 < w3.heap.size := lt_of_cell (a := ⟨w.heap.size + 1, 0, none⟩) Kc.out.1
        replace hzd : w.heap.size + 1 + 1 < w3.heap.size := lt_of_cell (a := ⟨w.heap.size + 1 + 1, 0, none⟩) Kd.out.1
        have hzx : w2.heap.size < w3.heap.size := lt_of_cell (a := ⟨w2.heap.size, 0, none⟩) Kx.out.1
        have hkau := hza
        have hkcu := hzc
        have hkdu := hzd
        have hkxu := hzx
        go_wp2_with fail
        refine (make_any nc nd Ac Ad lc ld cc cd _ (Sc.out.alloc _) (Sd.out.alloc _)).mono ?_
        rw [HP.out]
        rintro e w4 ⟨A4, c4, B4, d4, rfl, hsp, hsq, hb⟩
        clear qa0 qa1 qa2 qa3 qc0 qc1 qd0 qd1
        have Ka' : Hid (Cf w4 w.heap.size na Aa la.length ca nb Ab lb.length cb) := Cf.keep (Cf.keep Ka.out (blw1 _ _)) hb
        have Kc' : Hid (Cw w4 (w.heap.size + 1) nc Ac lc.length cc) := Cw.keep (Cw.keep Kc.out (blw1 _ _)) hb
        have Kd' : Hid (Cw w4 (w.heap.size + 1 + 1) nd Ad ld.length cd) := Cw.keep (Cw.keep Kd.out (blw1 _ _)) hb
        have Kx' : Hid (Cf w4 w2.heap.size nx A2 lx.length c2 ny B2 ly.length d2) := Cf.keep (Cf.keep Kx.out (blw1 _ _)) hb
        have Ku' : Hid (Cf w4 w3.heap.size nx A3 lx.length c3 ny B3 ly.length d3) := Cf.keep (Cf.fresh (by simp) _ _ _ _ _ _ _ _ _) hb
        have Sa' : Hid (Sl w4 Aa la ca) := Sl.below (Sa.out.alloc _) hb
        have Sb' : Hid (Sl w4 Ab lb cb) := Sl.below (Sb.out.alloc _) hb
        have Sc' : Hid (Sl w4 Ac lc cc) := Sl.below (Sc.out.alloc _) hb
        have Sd' : Hid (Sl w4 Ad ld cd) := Sl.below (Sd.out.alloc _) hb
        have Sx' : Hid (Sl w4 A2 lx c2) := Sl.below (Sx.out.alloc _) hb
        have Sy' : Hid (Sl w4 B2 ly d2) := Sl.below (Sy.out.alloc _) hb
        have Su' : Hid (Sl w4 A3 lx c3) := Sl.below (Su.out.alloc _) hb
        have Sv' : Hid (Sl w4 B3 ly d3) := Sl.below (Sv.out.alloc _) hb
        have B' : Hid (Below w.heap.size w w4) := below_mono (below_mono B.out (blw1 _ _)) hb
        clear hb Ka Kc Kd Kx Sa Sb Sc Sd Sx Sy Su Sv B
        have Ka := Ka'
        have Kc := Kc'
        have Kd := Kd'
        have Kx := Kx'
        have Ku := Ku'
        have Sa := Sa'
        have Sb := Sb'
        have Sc := Sc'
        have Sd := Sd'
        have Sx := Sx'
        have Sy := Sy'
        have Su := Su'
        have Sv := Sv'
        have B := B'
        clear Ka' Kc' Kd' Kx' Ku' Sa' Sb' Sc' Sd' Sx' Sy' Su' Sv' B'
        (try dsimp only at hsp hsq)
        (try dsimp only)
        have Sp : Hid (Sl w4 A4 lp c4) := hsp
        clear hsp
        have Sq : Hid (Sl w4 B4 lq d4) := hsq
        clear hsq
        obtain ⟨qa0, qa1, qa2, qa3⟩ := Ka.out
        obtain ⟨qc0, qc1⟩ := Kc.out
        obtain ⟨qd0, qd1⟩ := Kd.out
        replace hza : w.heap.size < w4.heap.size := lt_of_cell (a := ⟨w.heap.size, 0, none⟩) Ka.out.1
        replace hzc : w.heap.size + 1 < w4.heap.size := lt_of_cell (a := ⟨w.heap.size + 1, 0, none⟩) Kc.out.1
        replace hzd : w.heap.size + 1 + 1 < w4.heap.size := lt_of_cell (a := ⟨w.heap.size + 1 + 1, 0, none⟩) Kd.out.1
        replace hzx : w2.heap.size < w4.heap.size := lt_of_cell (a := ⟨w2.heap.size, 0, none⟩) Kx.out.1
        have hzu : w3.heap.size < w4.heap.size := lt_of_cell (a := ⟨w3.heap.size, 0, none⟩) Ku.out.1
        have hkap := hza
        have hkcp := hzc
        have hkdp := hzd
        have hkxp := hzx
        have hkup := hzu
        go_wp2_with fail
        refine (rmake_any nc nd Ac Ad lc ld cc cd _ (Sc.out.alloc _) (Sd.out.alloc _)).mono ?_
        rw [HP.out]
        rintro e w5 ⟨A5, c5, B5, d5, rfl, hss, hst, hb⟩
        clear qa0 qa1 qa2 qa3 qc0 qc1 qd0 qd1
        have Ka' : Hid (Cf w5 w.heap.size na Aa la.length ca nb Ab lb.length cb) := Cf.keep (Cf.keep Ka.out (blw1 _ _)) hb
        have Kc' : Hid (Cw w5 (w.heap.size + 1) nc Ac lc.length cc) := Cw.keep (Cw.keep Kc.out (blw1 _ _)) hb
        have Kd' : Hid (Cw w5 (w.heap.size + 1 + 1) nd Ad ld.length cd) := Cw.keep (Cw.keep Kd.out (blw1 _ _)) hb
        have Kx' : Hid (Cf w5 w2.heap.size nx A2 lx.length c2 ny B2 ly.length d2) := Cf.keep (Cf.keep Kx.out (blw1 _ _)) hb
        have Ku' : Hid (Cf w5 w3.heap.size nx A3 lx.length c3 ny B3 ly.length d3) := Cf.keep (Cf.keep Ku.out (blw1 _ _)) hb
        have Kp' : Hid (Cf w5 w4.heap.size np A4 lp.length c4 nq B4 lq.length d4) := Cf.keep (Cf.fresh (by simp) _ _ _ _ _ _ _ _ _) hb
        have Sa' : Hid (Sl w5 Aa la ca) := Sl.below (Sa.out.alloc _) hb
        have Sb' : Hid (Sl w5 Ab lb cb) := Sl.below (Sb.out.alloc _) hb
        have Sc' : Hid (Sl w5 Ac lc cc) := Sl.below (Sc.out.alloc _) hb
        have Sd' : Hid (Sl w5 Ad ld cd) := Sl.below (Sd.out.alloc _) hb
        have Sx' : Hid (Sl w5 A2 lx c2) := Sl.below (Sx.out.alloc _) hb
        have Sy' : Hid (Sl w5 B2 ly d2) := Sl.below (Sy.out.alloc _) hb
        have Su' : Hid (Sl w5 A3 lx c3) := Sl.below (Su.out.alloc _) hb
        have Sv' : Hid (Sl w5 B3 ly d3) := Sl.below (Sv.out.alloc _) hb
        have Sp' : Hid (Sl w5 A4 lp c4) := Sl.below (Sp.out.alloc _) hb
        have Sq' : Hid (Sl w5 B4 lq d4) := Sl.below (Sq.out.alloc _) hb
        have B' : Hid (Below w.heap.size w w5) := below_mono (below_mono B.out (blw1 _ _)) hb
        clear hb Ka Kc Kd Kx Ku Sa Sb Sc Sd Sx Sy Su Sv Sp Sq B
        have Ka := Ka'
        have Kc := Kc'
        have Kd := Kd'
        have Kx := Kx'
        have Ku := Ku'
        have Kp := Kp'
        have Sa := Sa'
        have Sb := Sb'
        have Sc := Sc'
        have Sd := Sd'
        have Sx := Sx'
        have Sy := Sy'
        have Su := Su'
        have Sv := Sv'
        have Sp := Sp'
        have Sq := Sq'
        have B := B'
        clear Ka' Kc' Kd' Kx' Ku' Kp' Sa' Sb' Sc' Sd' Sx' Sy' Su' Sv' Sp' Sq' B'
        (try dsimp only at hss hst)
        (try dsimp only)
        have Ss : Hid (Sl w5 A5 lp c5) := hss
        clear hss
        have St : Hid (Sl w5 B5 lq d5) := hst
        clear hst
        obtain ⟨qa0, qa1, qa2, qa3⟩ := Ka.out
        obtain ⟨qc0, qc1⟩ := Kc.out
        obtain ⟨qd0, qd1⟩ := Kd.out
        replace hza : w.heap.size < w5.heap.size := lt_of_cell (a := ⟨w.heap.size, 0, none⟩) Ka.out.1
        replace hzc : w.heap.size + 1 < w5.heap.size := lt_of_cell (a := ⟨w.heap.size + 1, 0, none⟩) Kc.out.1
        replace hzd : w.heap.size + 1 + 1 < w5.heap.size := lt_of_cell (a := ⟨w.heap.size + 1 + 1, 0, none⟩) Kd.out.1
        replace hzx : w2.heap.size < w5.heap.size := lt_of_cell (a := ⟨w2.heap.size, 0, none⟩) Kx.out.1
        replace hzu : w3.heap.size < w5.heap.size := lt_of_cell (a := ⟨w3.heap.size, 0, none⟩) Ku.out.1
        have hzp : w4.heap.size < w5.heap.size := lt_of_cell (a := ⟨w4.heap.size, 0, none⟩) Kp.out.1
        have hkas := hza
        have hkcs := hzc
        have hkds := hzd
        have hkxs := hzx
        have hkus := hzu
        have hkps := hzp
        go_wp2_with fail
        clear qa0 qa1 qa2 qa3 qc0 qc1 qd0 qd1
        have KaX : Hid (Cf ((w5.alloc (.cells #[.bool np, .slice A5 lp.length c5, .bool nq, .slice B5 lq.length d5] 26)).drew) w.heap.size na Aa la.length ca nb Ab lb.length cb) := Cf.keep Ka.out (blw1 _ _).drew
        have KxX : Hid (Cf ((w5.alloc (.cells #[.bool np, .slice A5 lp.length c5, .bool nq, .slice B5 lq.length d5] 26)).drew) w2.heap.size nx A2 lx.length c2 ny B2 ly.length d2) := Cf.keep Kx.out (blw1 _ _).drew
        have KuX : Hid (Cf ((w5.alloc (.cells #[.bool np, .slice A5 lp.length c5, .bool nq, .slice B5 lq.length d5] 26)).drew) w3.heap.size nx A3 lx.length c3 ny B3 ly.length d3) := Cf.keep Ku.out (blw1 _ _).drew
        have KpX : Hid (Cf ((w5.alloc (.cells #[.bool np, .slice A5 lp.length c5, .bool nq, .slice B5 lq.length d5] 26)).drew) w4.heap.size np A4 lp.length c4 nq B4 lq.length d4) := Cf.keep Kp.out (blw1 _ _).drew
        have KsX : Hid (Cf ((w5.alloc (.cells #[.bool np, .slice A5 lp.length c5, .bool nq, .slice B5 lq.length d5] 26)).drew) w5.heap.size np A5 lp.length c5 nq B5 lq.length d5) := Cf.drew (Cf.fresh rfl _ _ _ _ _ _ _ _ _)
        have SaX : Hid (Sl ((w5.alloc (.cells #[.bool np, .slice A5 lp.length c5, .bool nq, .slice B5 lq.length d5] 26)).drew) Aa la ca) := (Sa.out.alloc _).drew
        have SbX : Hid (Sl ((w5.alloc (.cells #[.bool np, .slice A5 lp.length c5, .bool nq, .slice B5 lq.length d5] 26)).drew) Ab lb cb) := (Sb.out.alloc _).drew
        have SxX : Hid (Sl ((w5.alloc (.cells #[.bool np, .slice A5 lp.length c5, .bool nq, .slice B5 lq.length d5] 26)).drew) A2 lx c2) := (Sx.out.alloc _).drew
        have SyX : Hid (Sl ((w5.alloc (.cells #[.bool np, .slice A5 lp.length c5, .bool nq, .slice B5 lq.length d5] 26)).drew) B2 ly d2) := (Sy.out.alloc _).drew
        have SuX : Hid (Sl ((w5.alloc (.cells #[.bool np, .slice A5 lp.length c5, .bool nq, .slice B5 lq.length d5] 26)).drew) A3 lx c3) := (Su.out.alloc _).drew
        have SvX : Hid (Sl ((w5.alloc (.cells #[.bool np, .slice A5 lp.length c5, .bool nq, .slice B5 lq.length d5] 26)).drew) B3 ly d3) := (Sv.out.alloc _).drew
        have SpX : Hid (Sl ((w5.alloc (.cells #[.bool np, .slice A5 lp.length c5, .bool nq, .slice B5 lq.length d5] 26)).drew) A4 lp c4) := (Sp.out.alloc _).drew
        have SqX : Hid (Sl ((w5.alloc (.cells #[.bool np, .slice A5 lp.length c5, .bool nq, .slice B5 lq.length d5] 26)).drew) B4 lq d4) := (Sq.out.alloc _).drew
        have SsX : Hid (Sl ((w5.alloc (.cells #[.bool np, .slice A5 lp.length c5, .bool nq, .slice B5 lq.length d5] 26)).drew) A5 lp c5) := (Ss.out.alloc _).drew
        have StX : Hid (Sl ((w5.alloc (.cells #[.bool np, .slice A5 lp.length c5, .bool nq, .slice B5 lq.length d5] 26)).drew) B5 lq d5) := (St.out.alloc _).drew
        have BX : Hid (Below w.heap.size w ((w5.alloc (.cells #[.bool np, .slice A5 lp.length c5, .bool nq, .slice B5 lq.length d5] 26)).drew)) := (below_mono B.out (blw1 _ _)).drew
        obtain ⟨qaX0, qaX1, qaX2, qaX3⟩ := KaX.out
        clear Ka Kc Kd Kx Ku Kp Sa Sb Sc Sd Sx Sy Su Sv Sp Sq Ss St B
        have J0 : Hid (((w5.alloc (.cells #[.bool np, .slice A5 lp.length c5, .bool nq, .slice B5 lq.length d5] 26)).drew).cell? ⟨w.heap.size, 0, none⟩ = some (.bool na) ∧ ((w5.alloc (.cells #[.bool np, .slice A5 lp.length c5, .bool nq, .slice B5 lq.length d5] 26)).drew).cell? ⟨w.heap.size, 1, none⟩ = some (.slice Aa la.length ca) ∧ ((w5.alloc (.cells #[.bool np, .slice A5 lp.length c5, .bool nq, .slice B5 lq.length d5] 26)).drew).cell? ⟨w.heap.size, 2, none⟩ = some (.bool nb) ∧ ((w5.alloc (.cells #[.bool np, .slice A5 lp.length c5, .bool nq, .slice B5 lq.length d5] 26)).drew).cell? ⟨w.heap.size, 3, none⟩ = some (.slice Ab lb.length cb) ∧ ((w5.alloc (.cells #[.bool np, .slice A5 lp.length c5, .bool nq, .slice B5 lq.length d5] 26)).drew).cell? ⟨w2.heap.size, 0, none⟩ = some (.bool nx) ∧ ((w5.alloc (.cells #[.bool np, .slice A5 lp.length c5, .bool nq, .slice B5 lq.length d5] 26)).drew).cell? ⟨w2.heap.size, 1, none⟩ = some (.slice A2 lx.length c2) ∧ ((w5.alloc (.cells #[.bool np, .slice A5 lp.length c5, .bool nq, .slice B5 lq.length d5] 26)).drew).cell? ⟨w2.heap.size, 2, none⟩ = some (.bool ny) ∧ ((w5.alloc (.cells #[.bool np, .slice A5 lp.length c5, .bool nq, .slice B5 lq.length d5] 26)).drew).cell? ⟨w2.heap.size, 3, none⟩ = some (.slice B2 ly.length d2) ∧ ((w5.alloc (.cells #[.bool np, .slice A5 lp.length c5, .bool nq, .slice B5 lq.length d5] 26)).drew).cell? ⟨w3.heap.size, 0, none⟩ = some (.bool nx) ∧ ((w5.alloc (.cells #[.bool np, .slice A5 lp.length c5, .bool nq, .slice B5 lq.length d5] 26)).drew).cell? ⟨w3.heap.size, 1, none⟩ = some (.slice A3 lx.length c3) ∧ ((w5.alloc (.cells #[.bool np, .slice A5 lp.length c5, .bool nq, .slice B5 lq.length d5] 26)).drew).cell? ⟨w3.heap.size, 2, none⟩ = some (.bool ny) ∧ ((w5.alloc (.cells #[.bool np, .slice A5 lp.length c5, .bool nq, .slice B5 lq.length d5] 26)).drew).cell? ⟨w3.heap.size, 3, none⟩ = some (.slice B3 ly.length d3) ∧ ((w5.alloc (.cells #[.bool np, .slice A5 lp.length c5, .bool nq, .slice B5 lq.length d5] 26)).drew).cell? ⟨w4.heap.size, 0, none⟩ = some (.bool np) ∧ ((w5.alloc (.cells #[.bool np, .slice A5 lp.length c5, .bool nq, .slice B5 lq.length d5] 26)).drew).cell? ⟨w4.heap.size, 1, none⟩ = some (.slice A4 lp.length c4) ∧ ((w5.alloc (.cells #[.bool np, .slice A5 lp.length c5, .bool nq, .slice B5 lq.length d5] 26)).drew).cell? ⟨w4.heap.size, 2, none⟩ = some (.bool nq) ∧ ((w5.alloc (.cells #[.bool np, .slice A5 lp.length c5, .bool nq, .slice B5 lq.length d5] 26)).drew).cell? ⟨w4.heap.size, 3, none⟩ = some (.slice B4 lq.length d4) ∧ ((w5.alloc (.cells #[.bool np, .slice A5 lp.length c5, .bool nq, .slice B5 lq.length d5] 26)).drew).cell? ⟨w5.heap.size, 0, none⟩ = some (.bool np) ∧ ((w5.alloc (.cells #[.bool np, .slice A5 lp.length c5, .bool nq, .slice B5 lq.length d5] 26)).drew).cell? ⟨w5.heap.size, 1, none⟩ = some (.slice A5 lp.length c5) ∧ ((w5.alloc (.cells #[.bool np, .slice A5 lp.length c5, .bool nq, .slice B5 lq.length d5] 26)).drew).cell? ⟨w5.heap.size, 2, none⟩ = some (.bool nq) ∧ ((w5.alloc (.cells #[.bool np, .slice A5 lp.length c5, .bool nq, .slice B5 lq.length d5] 26)).drew).cell? ⟨w5.heap.size, 3, none⟩ = some (.slice B5 lq.length d5)) := ⟨KaX.out.1, KaX.out.2.1, KaX.out.2.2.1, KaX.out.2.2.2, KxX.out.1, KxX.out.2.1, KxX.out.2.2.1, KxX.out.2.2.2, KuX.out.1, KuX.out.2.1, KuX.out.2.2.1, KuX.out.2.2.2, KpX.out.1, KpX.out.2.1, KpX.out.2.2.1, KpX.out.2.2.2, KsX.out.1, KsX.out.2.1, KsX.out.2.2.1, KsX.out.2.2.2⟩
        clear qaX0 qaX1 qaX2 qaX3
        go_region_held3 (fun w' => w'.cell? ⟨w.heap.size, 0, none⟩ = some (.bool na) ∧ w'.cell? ⟨w.heap.size, 1, none⟩ = some (.slice Aa la.length ca) ∧ w'.cell? ⟨w.heap.size, 2, none⟩ = some (.bool nb) ∧ w'.cell? ⟨w.heap.size, 3, none⟩ = some (.slice Ab lb.length cb) ∧ w'.cell? ⟨w2.heap.size, 0, none⟩ = some (.bool nx) ∧ w'.cell? ⟨w2.heap.size, 1, none⟩ = some (.slice A2 lx.length c2) ∧ w'.cell? ⟨w2.heap.size, 2, none⟩ = some (.bool ny) ∧ w'.cell? ⟨w2.heap.size, 3, none⟩ = some (.slice B2 ly.length d2) ∧ w'.cell? ⟨w3.heap.size, 0, none⟩ = some (.bool nx) ∧ w'.cell? ⟨w3.heap.size, 1, none⟩ = some (.slice A3 lx.length c3) ∧ w'.cell? ⟨w3.heap.size, 2, none⟩ = some (.bool ny) ∧ w'.cell? ⟨w3.heap.size, 3, none⟩ = some (.slice B3 ly.length d3) ∧ w'.cell? ⟨w4.heap.size, 0, none⟩ = some (.bool np) ∧ w'.cell? ⟨w4.heap.size, 1, none⟩ = some (.slice A4 lp.length c4) ∧ w'.cell? ⟨w4.heap.size, 2, none⟩ = some (.bool nq) ∧ w'.cell? ⟨w4.heap.size, 3, none⟩ = some (.slice B4 lq.length d4) ∧ w'.cell? ⟨w5.heap.size, 0, none⟩ = some (.bool np) ∧ w'.cell? ⟨w5.heap.size, 1, none⟩ = some (.slice A5 lp.length c5) ∧ w'.cell? ⟨w5.heap.size, 2, none⟩ = some (.bool nq) ∧ w'.cell? ⟨w5.heap.size, 3, none⟩ = some (.slice B5 lq.length d5))
          (first | with_reducible exact J4.out | with_reducible exact J3.out | with_reducible exact J2.out | with_reducible exact J1.out | with_reducible exact J0.out)
          (first
          | (go_at_call 10; (with_reducible refine (fcheck_any na nb Aa Ab la lb ca cb _ SaX.out SbX.out).mono ?_); rw [HK.out]; rintro e v1 ⟨rfl, hb⟩; have Kav1 : Hid (Cf v1 w.heap.size na Aa la.length ca nb Ab lb.length cb) := Cf.keep KaX.out hb; have Kxv1 : Hid (Cf v1 w2.heap.size nx A2 lx.length c2 ny B2 ly.length d2) := Cf.keep KxX.out hb; have Kuv1 : Hid (Cf v1 w3.heap.size nx A3 lx.length c3 ny B3 ly.length d3) := Cf.keep KuX.out hb; have Kpv1 : Hid (Cf v1 w4.heap.size np A4 lp.length c4 nq B4 lq.length d4) := Cf.keep KpX.out hb; have Ksv1 : Hid (Cf v1 w5.heap.size np A5 lp.length c5 nq B5 lq.length d5) := Cf.keep KsX.out hb; have Sav1 : Hid (Sl v1 Aa la ca) := Sl.below SaX.out hb; have Sbv1 : Hid (Sl v1 Ab lb cb) := Sl.below SbX.out hb; have Sxv1 : Hid (Sl v1 A2 lx c2) := Sl.below SxX.out hb; have Syv1 : Hid (Sl v1 B2 ly d2) := Sl.below SyX.out hb; have Suv1 : Hid (Sl v1 A3 lx c3) := Sl.below SuX.out hb; have Svv1 : Hid (Sl v1 B3 ly d3) := Sl.below SvX.out hb; have Spv1 : Hid (Sl v1 A4 lp c4) := Sl.below SpX.out hb; have Sqv1 : Hid (Sl v1 B4 lq d4) := Sl.below SqX.out hb; have Ssv1 : Hid (Sl v1 A5 lp c5) := Sl.below SsX.out hb; have Stv1 : Hid (Sl v1 B5 lq d5) := Sl.below StX.out hb; have Bv1 := Lib.hid (below_mono BX.out hb); have J1 : Hid (v1.cell? ⟨w.heap.size, 0, none⟩ = some (.bool na) ∧ v1.cell? ⟨w.heap.size, 1, none⟩ = some (.slice Aa la.length ca) ∧ v1.cell? ⟨w.heap.size, 2, none⟩ = some (.bool nb) ∧ v1.cell? ⟨w.heap.size, 3, none⟩ = some (.slice Ab lb.length cb) ∧ v1.cell? ⟨w2.heap.size, 0, none⟩ = some (.bool nx) ∧ v1.cell? ⟨w2.heap.size, 1, none⟩ = some (.slice A2 lx.length c2) ∧ v1.cell? ⟨w2.heap.size, 2, none⟩ = some (.bool ny) ∧ v1.cell? ⟨w2.heap.size, 3, none⟩ = some (.slice B2 ly.length d2) ∧ v1.cell? ⟨w3.heap.size, 0, none⟩ = some (.bool nx) ∧ v1.cell? ⟨w3.heap.size, 1, none⟩ = some (.slice A3 lx.length c3) ∧ v1.cell? ⟨w3.heap.size, 2, none⟩ = some (.bool ny) ∧ v1.cell? ⟨w3.heap.size, 3, none⟩ = some (.slice B3 ly.length d3) ∧ v1.cell? ⟨w4.heap.size, 0, none⟩ = some (.bool np) ∧ v1.cell? ⟨w4.heap.size, 1, none⟩ = some (.slice A4 lp.length c4) ∧ v1.cell? ⟨w4.heap.size, 2, none⟩ = some (.bool nq) ∧ v1.cell? ⟨w4.heap.size, 3, none⟩ = some (.slice B4 lq.length d4) ∧ v1.cell? ⟨w5.heap.size, 0, none⟩ = some (.bool np) ∧ v1.cell? ⟨w5.heap.size, 1, none⟩ = some (.slice A5 lp.length c5) ∧ v1.cell? ⟨w5.heap.size, 2, none⟩ = some (.bool nq) ∧ v1.cell? ⟨w5.heap.size, 3, none⟩ = some (.slice B5 lq.length d5)) := ⟨Kav1.out.1, Kav1.out.2.1, Kav1.out.2.2.1, Kav1.out.2.2.2, Kxv1.out.1, Kxv1.out.2.1, Kxv1.out.2.2.1, Kxv1.out.2.2.2, Kuv1.out.1, Kuv1.out.2.1, Kuv1.out.2.2.1, Kuv1.out.2.2.2, Kpv1.out.1, Kpv1.out.2.1, Kpv1.out.2.2.1, Kpv1.out.2.2.2, Ksv1.out.1, Ksv1.out.2.1, Ksv1.out.2.2.1, Ksv1.out.2.2.2⟩; clear hb)
          | (go_at_call 11; (with_reducible refine (rfcheck_any na nb Aa Ab la lb ca cb _ Sav1.out Sbv1.out).mono ?_); rw [HK.out]; rintro e v2 ⟨rfl, hb⟩; have Kav2 : Hid (Cf v2 w.heap.size na Aa la.length ca nb Ab lb.length cb) := Cf.keep Kav1.out hb; have Kxv2 : Hid (Cf v2 w2.heap.size nx A2 lx.length c2 ny B2 ly.length d2) := Cf.keep Kxv1.out hb; have Kuv2 : Hid (Cf v2 w3.heap.size nx A3 lx.length c3 ny B3 ly.length d3) := Cf.keep Kuv1.out hb; have Kpv2 : Hid (Cf v2 w4.heap.size np A4 lp.length c4 nq B4 lq.length d4) := Cf.keep Kpv1.out hb; have Ksv2 : Hid (Cf v2 w5.heap.size np A5 lp.length c5 nq B5 lq.length d5) := Cf.keep Ksv1.out hb; have Sxv2 : Hid (Sl v2 A2 lx c2) := Sl.below Sxv1.out hb; have Syv2 : Hid (Sl v2 B2 ly d2) := Sl.below Syv1.out hb; have Suv2 : Hid (Sl v2 A3 lx c3) := Sl.below Suv1.out hb; have Svv2 : Hid (Sl v2 B3 ly d3) := Sl.below Svv1.out hb; have Spv2 : Hid (Sl v2 A4 lp c4) := Sl.below Spv1.out hb; have Sqv2 : Hid (Sl v2 B4 lq d4) := Sl.below Sqv1.out hb; have Ssv2 : Hid (Sl v2 A5 lp c5) := Sl.below Ssv1.out hb; have Stv2 : Hid (Sl v2 B5 lq d5) := Sl.below Stv1.out hb; have Bv2 := Lib.hid (below_mono Bv1.out hb); have J2 : Hid (v2.cell? ⟨w.heap.size, 0, none⟩ = some (.bool na) ∧ v2.cell? ⟨w.heap.size, 1, none⟩ = some (.slice Aa la.length ca) ∧ v2.cell? ⟨w.heap.size, 2, none⟩ = some (.bool nb) ∧ v2.cell? ⟨w.heap.size, 3, none⟩ = some (.slice Ab lb.length cb) ∧ v2.cell? ⟨w2.heap.size, 0, none⟩ = some (.bool nx) ∧ v2.cell? ⟨w2.heap.size, 1, none⟩ = some (.slice A2 lx.length c2) ∧ v2.cell? ⟨w2.heap.size, 2, none⟩ = some (.bool ny) ∧ v2.cell? ⟨w2.heap.size, 3, none⟩ = some (.slice B2 ly.length d2) ∧ v2.cell? ⟨w3.heap.size, 0, none⟩ = some (.bool nx) ∧ v2.cell? ⟨w3.heap.size, 1, none⟩ = some (.slice A3 lx.length c3) ∧ v2.cell? ⟨w3.heap.size, 2, none⟩ = some (.bool ny) ∧ v2.cell? ⟨w3.heap.size, 3, none⟩ = some (.slice B3 ly.length d3) ∧ v2.cell? ⟨w4.heap.size, 0, none⟩ = some (.bool np) ∧ v2.cell? ⟨w4.heap.size, 1, none⟩ = some (.slice A4 lp.length c4) ∧ v2.cell? ⟨w4.heap.size, 2, none⟩ = some (.bool nq) ∧ v2.cell? ⟨w4.heap.size, 3, none⟩ = some (.slice B4 lq.length d4) ∧ v2.cell? ⟨w5.heap.size, 0, none⟩ = some (.bool np) ∧ v2.cell? ⟨w5.heap.size, 1, none⟩ = some (.slice A5 lp.length c5) ∧ v2.cell? ⟨w5.heap.size, 2, none⟩ = some (.bool nq) ∧ v2.cell? ⟨w5.heap.size, 3, none⟩ = some (.slice B5 lq.length d5)) := ⟨Kav2.out.1, Kav2.out.2.1, Kav2.out.2.2.1, Kav2.out.2.2.2, Kxv2.out.1, Kxv2.out.2.1, Kxv2.out.2.2.1, Kxv2.out.2.2.2, Kuv2.out.1, Kuv2.out.2.1, Kuv2.out.2.2.1, Kuv2.out.2.2.2, Kpv2.out.1, Kpv2.out.2.1, Kpv2.out.2.2.1, Kpv2.out.2.2.2, Ksv2.out.1, Ksv2.out.2.1, Ksv2.out.2.2.1, Ksv2.out.2.2.2⟩; clear hb)
          | (go_at_call 12; (with_reducible refine (fsame_self nx ny _ _ _ _ lx ly _ _ _ _ _ Sxv2.out Syv2.out Suv2.out Svv2.out).mono ?_); rintro e v3 ⟨rfl, hb⟩; have Kav3 : Hid (Cf v3 w.heap.size na Aa la.length ca nb Ab lb.length cb) := Cf.keep Kav2.out hb; have Kxv3 : Hid (Cf v3 w2.heap.size nx A2 lx.length c2 ny B2 ly.length d2) := Cf.keep Kxv2.out hb; have Kuv3 : Hid (Cf v3 w3.heap.size nx A3 lx.length c3 ny B3 ly.length d3) := Cf.keep Kuv2.out hb; have Kpv3 : Hid (Cf v3 w4.heap.size np A4 lp.length c4 nq B4 lq.length d4) := Cf.keep Kpv2.out hb; have Ksv3 : Hid (Cf v3 w5.heap.size np A5 lp.length c5 nq B5 lq.length d5) := Cf.keep Ksv2.out hb; have Spv3 : Hid (Sl v3 A4 lp c4) := Sl.below Spv2.out hb; have Sqv3 : Hid (Sl v3 B4 lq d4) := Sl.below Sqv2.out hb; have Ssv3 : Hid (Sl v3 A5 lp c5) := Sl.below Ssv2.out hb; have Stv3 : Hid (Sl v3 B5 lq d5) := Sl.below Stv2.out hb; have Bv3 := Lib.hid (below_mono Bv2.out hb); have J3 : Hid (v3.cell? ⟨w.heap.size, 0, none⟩ = some (.bool na) ∧ v3.cell? ⟨w.heap.size, 1, none⟩ = some (.slice Aa la.length ca) ∧ v3.cell? ⟨w.heap.size, 2, none⟩ = some (.bool nb) ∧ v3.cell? ⟨w.heap.size, 3, none⟩ = some (.slice Ab lb.length cb) ∧ v3.cell? ⟨w2.heap.size, 0, none⟩ = some (.bool nx) ∧ v3.cell? ⟨w2.heap.size, 1, none⟩ = some (.slice A2 lx.length c2) ∧ v3.cell? ⟨w2.heap.size, 2, none⟩ = some (.bool ny) ∧ v3.cell? ⟨w2.heap.size, 3, none⟩ = some (.slice B2 ly.length d2) ∧ v3.cell? ⟨w3.heap.size, 0, none⟩ = some (.bool nx) ∧ v3.cell? ⟨w3.heap.size, 1, none⟩ = some (.slice A3 lx.length c3) ∧ v3.cell? ⟨w3.heap.size, 2, none⟩ = some (.bool ny) ∧ v3.cell? ⟨w3.heap.size, 3, none⟩ = some (.slice B3 ly.length d3) ∧ v3.cell? ⟨w4.heap.size, 0, none⟩ = some (.bool np) ∧ v3.cell? ⟨w4.heap.size, 1, none⟩ = some (.slice A4 lp.length c4) ∧ v3.cell? ⟨w4.heap.size, 2, none⟩ = some (.bool nq) ∧ v3.cell? ⟨w4.heap.size, 3, none⟩ = some (.slice B4 lq.length d4) ∧ v3.cell? ⟨w5.heap.size, 0, none⟩ = some (.bool np) ∧ v3.cell? ⟨w5.heap.size, 1, none⟩ = some (.slice A5 lp.length c5) ∧ v3.cell? ⟨w5.heap.size, 2, none⟩ = some (.bool nq) ∧ v3.cell? ⟨w5.heap.size, 3, none⟩ = some (.slice B5 lq.length d5)) := ⟨Kav3.out.1, Kav3.out.2.1, Kav3.out.2.2.1, Kav3.out.2.2.2, Kxv3.out.1, Kxv3.out.2.1, Kxv3.out.2.2.1, Kxv3.out.2.2.2, Kuv3.out.1, Kuv3.out.2.1, Kuv3.out.2.2.1, Kuv3.out.2.2.2, Kpv3.out.1, Kpv3.out.2.1, Kpv3.out.2.2.1, Kpv3.out.2.2.2, Ksv3.out.1, Ksv3.out.2.1, Ksv3.out.2.2.1, Ksv3.out.2.2.2⟩; clear hb)
          | (go_at_call 12; (with_reducible refine (fsame_self np nq _ _ _ _ lp lq _ _ _ _ _ Spv3.out Sqv3.out Ssv3.out Stv3.out).mono ?_); rintro e v4 ⟨rfl, hb⟩; have Kav4 : Hid (Cf v4 w.heap.size na Aa la.length ca nb Ab lb.length cb) := Cf.keep Kav3.out hb; have Kxv4 : Hid (Cf v4 w2.heap.size nx A2 lx.length c2 ny B2 ly.length d2) := Cf.keep Kxv3.out hb; have Kuv4 : Hid (Cf v4 w3.heap.size nx A3 lx.length c3 ny B3 ly.length d3) := Cf.keep Kuv3.out hb; have Kpv4 : Hid (Cf v4 w4.heap.size np A4 lp.length c4 nq B4 lq.length d4) := Cf.keep Kpv3.out hb; have Ksv4 : Hid (Cf v4 w5.heap.size np A5 lp.length c5 nq B5 lq.length d5) := Cf.keep Ksv3.out hb; have Bv4 := Lib.hid (below_mono Bv3.out hb); have J4 : Hid (v4.cell? ⟨w.heap.size, 0, none⟩ = some (.bool na) ∧ v4.cell? ⟨w.heap.size, 1, none⟩ = some (.slice Aa la.length ca) ∧ v4.cell? ⟨w.heap.size, 2, none⟩ = some (.bool nb) ∧ v4.cell? ⟨w.heap.size, 3, none⟩ = some (.slice Ab lb.length cb) ∧ v4.cell? ⟨w2.heap.size, 0, none⟩ = some (.bool nx) ∧ v4.cell? ⟨w2.heap.size, 1, none⟩ = some (.slice A2 lx.length c2) ∧ v4.cell? ⟨w2.heap.size, 2, none⟩ = some (.bool ny) ∧ v4.cell? ⟨w2.heap.size, 3, none⟩ = some (.slice B2 ly.length d2) ∧ v4.cell? ⟨w3.heap.size, 0, none⟩ = some (.bool nx) ∧ v4.cell? ⟨w3.heap.size, 1, none⟩ = some (.slice A3 lx.length c3) ∧ v4.cell? ⟨w3.heap.size, 2, none⟩ = some (.bool ny) ∧ v4.cell? ⟨w3.heap.size, 3, none⟩ = some (.slice B3 ly.length d3) ∧ v4.cell? ⟨w4.heap.size, 0, none⟩ = some (.bool np) ∧ v4.cell? ⟨w4.heap.size, 1, none⟩ = some (.slice A4 lp.length c4) ∧ v4.cell? ⟨w4.heap.size, 2, none⟩ = some (.bool nq) ∧ v4.cell? ⟨w4.heap.size, 3, none⟩ = some (.slice B4 lq.length d4) ∧ v4.cell? ⟨w5.heap.size, 0, none⟩ = some (.bool np) ∧ v4.cell? ⟨w5.heap.size, 1, none⟩ = some (.slice A5 lp.length c5) ∧ v4.cell? ⟨w5.heap.size, 2, none⟩ = some (.bool nq) ∧ v4.cell? ⟨w5.heap.size, 3, none⟩ = some (.slice B5 lq.length d5)) := ⟨Kav4.out.1, Kav4.out.2.1, Kav4.out.2.2.1, Kav4.out.2.2.2, Kxv4.out.1, Kxv4.out.2.1, Kxv4.out.2.2.1, Kxv4.out.2.2.2, Kuv4.out.1, Kuv4.out.2.1, Kuv4.out.2.2.1, Kuv4.out.2.2.2, Kpv4.out.1, Kpv4.out.2.1, Kpv4.out.2.2.1, Kpv4.out.2.2.2, Ksv4.out.1, Ksv4.out.2.1, Ksv4.out.2.2.1, Ksv4.out.2.2.2⟩; clear hb))
        all_goals (go_wp2; go_ret; exact ⟨rfl, Bv4.out⟩)

end Go.Proofs.Ythlfidbhldbedaa

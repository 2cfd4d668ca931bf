/- The walk of the law WideReckons. -/
import Derived.Test.YtejapkdhbpngbaaW20
import Derived.Test.YtejapkdhbpngbaaW36
import Derived.Test.YtejapkdhbpngbaaW37
import Derived.Test.YtejapkdhbpngbaaTwin
import Derived.Test.YtejapkdhbpngbaaPair2
import Derived.Deep.CutRange
namespace Go.Proofs.Ytejapkdhbpngbaa
open Go.RowKit
attribute [local go_sem ↓] Go.wp_at_zero Go.wp_at_succ

theorem sameB_self (n : Bool) (l : List Nat) : sameB n l n l = true := by simp [sameB]
theorem same_self (n : Bool) (A1 A2 : Option Addr) (l : List Nat) (c1 c2 : Nat) (w : World) (hs1 : Sl w A1 l c1) (hs2 : Sl w A2 l c2) :
    Calls Try.prog 21 #[.agg #[.bool n, .slice A1 l.length c1], .agg #[.bool n, .slice A2 l.length c2]] w fun e w' => e = .returned (.bool true) ∧ Below w.heap.size w w' := by
  have h := same_any n n A1 A2 l l c1 c2 w hs1 hs2
  rw [sameB_self] at h
  exact h

set_option maxRecDepth 100000 in
set_option maxHeartbeats 1000000 in
theorem wideReckons_walk (na nb : Bool) (A1 A2 : Option Addr) (la lb : List Nat) (ca cb : Nat) (w : World) (hsa : Sl w A1 la ca) (hsb : Sl w A2 lb cb) :
    Calls Try.prog 4 #[.agg #[.bool na, .slice A1 la.length ca], .agg #[.bool nb, .slice A2 lb.length cb]] w fun e w' => e = .returned (.bool true) ∧ Below w.heap.size w w' := by
  have Sa := Lib.hid hsa
  have Sb := Lib.hid hsb
  have Oa := Lib.hid hsa
  have Ob := Lib.hid hsb
  clear hsa hsb
  have B : Hid (Below w.heap.size w w) := Below.refl _ _
  cases hga : greatB la
  · cases hgb : greatB lb
    · go_enter Try.func4, Try.ntmps4
      go_wp2_with fail
      refine (great_any na A1 la ca _).mono ?_
      rintro e w1 ⟨rfl, hb⟩
      have Ka : Hid (Cw w1 w.heap.size na A1 la.length ca) := Cw.keep (Cw.keep (Cw.fresh (by simp) _ _ _ _ _) (blw1 _ _)) hb
      have Kb : Hid (Cw w1 (w.heap.size + 1) nb A2 lb.length cb) := Cw.keep (Cw.fresh (by simp) _ _ _ _ _) hb
      replace Sa : Hid (Sl w1 A1 la ca) := Sl.below ((Sa.out.alloc _).alloc _) hb
      replace Sb : Hid (Sl w1 A2 lb cb) := Sl.below ((Sb.out.alloc _).alloc _) hb
      replace B : Hid (Below w.heap.size w w1) := below_mono (below_mono (below_mono B.out (blw1 _ _)) (blw1 _ _)) hb
      clear hb
      obtain ⟨qa0, qa1⟩ := Ka.out
      obtain ⟨qb0, qb1⟩ := Kb.out
      have hza : w.heap.size < w1.heap.size := lt_of_cell (a := ⟨w.heap.size, 0, none⟩) Ka.out.1
      have hzb : w.heap.size + 1 < w1.heap.size := lt_of_cell (a := ⟨w.heap.size + 1, 0, none⟩) Kb.out.1
      go_wp2_with fail
      refine (great_any nb A2 lb cb _).mono ?_
      rintro e w2 ⟨rfl, hb⟩
      clear qa0 qa1 qb0 qb1
      replace Ka : Hid (Cw w2 w.heap.size na A1 la.length ca) := Cw.keep Ka.out hb
      replace Kb : Hid (Cw w2 (w.heap.size + 1) nb A2 lb.length cb) := Cw.keep Kb.out hb
      replace Sa : Hid (Sl w2 A1 la ca) := Sl.below Sa.out hb
      replace Sb : Hid (Sl w2 A2 lb cb) := Sl.below Sb.out hb
      replace B : Hid (Below w.heap.size w w2) := below_mono B.out hb
      clear hb
      obtain ⟨qa0, qa1⟩ := Ka.out
      obtain ⟨qb0, qb1⟩ := Kb.out
      replace hza : w.heap.size < w2.heap.size := lt_of_cell (a := ⟨w.heap.size, 0, none⟩) Ka.out.1
      replace hzb : w.heap.size + 1 < w2.heap.size := lt_of_cell (a := ⟨w.heap.size + 1, 0, none⟩) Kb.out.1
      go_upto_region 3 with fail
      clear qa0 qa1 qb0 qb1
      go_cut [5, 6] from 32 to 35 (fun s5 s6 wx => ∃ (g5 g6 : Nat) (A5 : Option Addr) (c5 : Nat) (A6 : Option Addr) (c6 : Nat), s5 = .pointer (some ⟨g5, 0, none⟩) ∧ s6 = .pointer (some ⟨g6, 0, none⟩) ∧ w.heap.size + 1 < g5 ∧ w.heap.size + 1 < g6 ∧ RS w (SAB w.heap.size na A1 la.length ca (w.heap.size + 1) nb A2 lb.length cb) la lb (some (g5, na, A5, la.length, c5)) (some (g6, nb, A6, lb.length, c6)) (some (A5, c5)) (some (A6, c6)) wx)
      case first =>
        refine region_pair (w := w) (sa := 2) (sb := 3) (s1 := 32) (s2 := 33) (s3 := 34) (s4 := 35) (s5 := 5) (s6 := 6) (ga := w.heap.size) (gb := w.heap.size + 1) (na := na) (nb := nb) (A1 := A1) (A2 := A2) (la := la) (lb := lb) (ca := ca) (cb := cb) rfl (by kernel_rfl)
          (⟨_, rfl, rfl, rfl, rfl, fun k hk => by cases hk⟩)
          (⟨_, rfl, rfl, rfl, rfl, fun k hk => by simp at hk; rcases hk with rfl <;> exact ⟨⟨_, .data⟩, by simp, rfl, rfl⟩⟩)
          (⟨_, rfl, rfl, rfl, rfl, fun k hk => by cases hk⟩)
          (⟨_, rfl, rfl, rfl, rfl, fun k hk => by simp at hk; rcases hk with rfl <;> exact ⟨⟨_, .data⟩, by simp, rfl, rfl⟩⟩)
          (⟨_, rfl, rfl, rfl, rfl, fun k hk => by cases hk⟩)
          (⟨_, rfl, rfl, rfl, rfl, fun k hk => by cases hk⟩)
          (⟨_, rfl, rfl, rfl, rfl, fun k hk => by simp at hk; rcases hk with rfl | rfl <;> exact ⟨⟨_, .data⟩, by simp, rfl, rfl⟩⟩)
          (⟨_, rfl, rfl, rfl, rfl, fun k hk => by simp at hk; rcases hk with rfl | rfl <;> exact ⟨⟨_, .data⟩, by simp, rfl, rfl⟩⟩)
          (by decide) (by decide) (by decide) (of_decide_eq_true (by kernel_rfl)) rfl rfl (by kernel_rfl) Oa.out Ob.out B.out Ka.out Kb.out (by omega) (by omega) ?_
        intro u1 u2 u3 u4 g5 g6 A5 c5 A6 c6 W l5 l6 hR
        unfold put6
        go_wp2_with fail
        go_meet
        exact ⟨g5, g6, A5, c5, A6, c6, rfl, rfl, l5, l6, hR⟩
      case rest =>
        obtain ⟨g5, g6, A5, c5, A6, c6, rfl, rfl, h5, h6, hR⟩ := hcut
        clear Ka Kb Sa Sb B
        have Ka := Lib.hid hR.ks.1
        have Kb := Lib.hid hR.ks.2
        have Kx := Lib.hid (hR.k5 _ _ _ _ _ rfl).1
        have Ky := Lib.hid (hR.k6 _ _ _ _ _ rfl).1
        have Sx := Lib.hid (hR.s1 _ _ rfl)
        have Sy := Lib.hid (hR.s2 _ _ rfl)
        have Sa := Lib.hid (Oa.out.below hR.b)
        have Sb := Lib.hid (Ob.out.below hR.b)
        have B := Lib.hid hR.b
        clear hR h5 h6 hza hzb
        obtain ⟨qa0, qa1⟩ := Ka.out
        obtain ⟨qb0, qb1⟩ := Kb.out
        obtain ⟨qx0, qx1⟩ := Kx.out
        obtain ⟨qy0, qy1⟩ := Ky.out
        have hza : w.heap.size < wc.heap.size := lt_of_cell (a := ⟨w.heap.size, 0, none⟩) Ka.out.1
        have hzb : w.heap.size + 1 < wc.heap.size := lt_of_cell (a := ⟨w.heap.size + 1, 0, none⟩) Kb.out.1
        have hzx : g5 < wc.heap.size := lt_of_cell (a := ⟨g5, 0, none⟩) Kx.out.1
        have hzy : g6 < wc.heap.size := lt_of_cell (a := ⟨g6, 0, none⟩) Ky.out.1
        go_wp2_with fail
        refine (wadd_any _ _ _ _ _ _ _ _ _ Sa.out Sb.out).mono ?_
        rintro e w11 ⟨A11, c11, rfl, hs11, hb⟩
        clear qa0 qa1 qb0 qb1 qx0 qx1 qy0 qy1
        replace Ka : Hid (Cw w11 w.heap.size na A1 la.length ca) := Cw.keep Ka.out hb
        replace Kb : Hid (Cw w11 (w.heap.size + 1) nb A2 lb.length cb) := Cw.keep Kb.out hb
        replace Kx : Hid (Cw w11 g5 na A5 la.length c5) := Cw.keep Kx.out hb
        replace Ky : Hid (Cw w11 g6 nb A6 lb.length c6) := Cw.keep Ky.out hb
        replace Sa : Hid (Sl w11 A1 la ca) := Sl.below Sa.out hb
        replace Sb : Hid (Sl w11 A2 lb cb) := Sl.below Sb.out hb
        replace Sx : Hid (Sl w11 A5 la c5) := Sl.below Sx.out hb
        replace Sy : Hid (Sl w11 A6 lb c6) := Sl.below Sy.out hb
        replace B : Hid (Below w.heap.size w w11) := below_mono B.out hb
        clear hb
        have Ss : Hid (Sl w11 A11 (addS na la nb lb).1.2 c11) := hs11
        clear hs11
        obtain ⟨qa0, qa1⟩ := Ka.out
        obtain ⟨qb0, qb1⟩ := Kb.out
        obtain ⟨qx0, qx1⟩ := Kx.out
        obtain ⟨qy0, qy1⟩ := Ky.out
        replace hza : w.heap.size < w11.heap.size := lt_of_cell (a := ⟨w.heap.size, 0, none⟩) Ka.out.1
        replace hzb : w.heap.size + 1 < w11.heap.size := lt_of_cell (a := ⟨w.heap.size + 1, 0, none⟩) Kb.out.1
        replace hzx : g5 < w11.heap.size := lt_of_cell (a := ⟨g5, 0, none⟩) Kx.out.1
        replace hzy : g6 < w11.heap.size := lt_of_cell (a := ⟨g6, 0, none⟩) Ky.out.1
        go_wp2_with fail
        refine (radd_any _ _ _ _ _ _ _ _ _ (Sx.out.alloc _) (Sy.out.alloc _)).mono ?_
        rintro e w12 ⟨A12, c12, rfl, hs12, hb⟩
        clear qa0 qa1 qb0 qb1 qx0 qx1 qy0 qy1
        replace Ka : Hid (Cw w12 w.heap.size na A1 la.length ca) := Cw.keep (Cw.keep Ka.out (blw1 _ _)) hb
        replace Kb : Hid (Cw w12 (w.heap.size + 1) nb A2 lb.length cb) := Cw.keep (Cw.keep Kb.out (blw1 _ _)) hb
        replace Kx : Hid (Cw w12 g5 na A5 la.length c5) := Cw.keep (Cw.keep Kx.out (blw1 _ _)) hb
        replace Ky : Hid (Cw w12 g6 nb A6 lb.length c6) := Cw.keep (Cw.keep Ky.out (blw1 _ _)) hb
        have Ks : Hid (Cw w12 w11.heap.size (addS na la nb lb).1.1 A11 (addS na la nb lb).1.2.length c11) := Cw.keep (Cw.fresh (by simp) _ _ _ _ _) hb
        replace Sa : Hid (Sl w12 A1 la ca) := Sl.below (Sa.out.alloc _) hb
        replace Sb : Hid (Sl w12 A2 lb cb) := Sl.below (Sb.out.alloc _) hb
        replace Sx : Hid (Sl w12 A5 la c5) := Sl.below (Sx.out.alloc _) hb
        replace Sy : Hid (Sl w12 A6 lb c6) := Sl.below (Sy.out.alloc _) hb
        replace Ss : Hid (Sl w12 A11 (addS na la nb lb).1.2 c11) := Sl.below (Ss.out.alloc _) hb
        replace B : Hid (Below w.heap.size w w12) := below_mono (below_mono B.out (blw1 _ _)) hb
        clear hb
        have St : Hid (Sl w12 A12 (addS na la nb lb).1.2 c12) := hs12
        clear hs12
        obtain ⟨qa0, qa1⟩ := Ka.out
        obtain ⟨qb0, qb1⟩ := Kb.out
        obtain ⟨qx0, qx1⟩ := Kx.out
        obtain ⟨qy0, qy1⟩ := Ky.out
        replace hza : w.heap.size < w12.heap.size := lt_of_cell (a := ⟨w.heap.size, 0, none⟩) Ka.out.1
        replace hzb : w.heap.size + 1 < w12.heap.size := lt_of_cell (a := ⟨w.heap.size + 1, 0, none⟩) Kb.out.1
        replace hzx : g5 < w12.heap.size := lt_of_cell (a := ⟨g5, 0, none⟩) Kx.out.1
        replace hzy : g6 < w12.heap.size := lt_of_cell (a := ⟨g6, 0, none⟩) Ky.out.1
        have hzs : w11.heap.size < w12.heap.size := lt_of_cell (a := ⟨w11.heap.size, 0, none⟩) Ks.out.1
        go_wp2_with fail
        refine (wsub_any _ _ _ _ _ _ _ _ _ (Sa.out.alloc _) (Sb.out.alloc _)).mono ?_
        rintro e w13 ⟨A13, c13, rfl, hs13, hb⟩
        clear qa0 qa1 qb0 qb1 qx0 qx1 qy0 qy1
        replace Ka : Hid (Cw w13 w.heap.size na A1 la.length ca) := Cw.keep (Cw.keep Ka.out (blw1 _ _)) hb
        replace Kb : Hid (Cw w13 (w.heap.size + 1) nb A2 lb.length cb) := Cw.keep (Cw.keep Kb.out (blw1 _ _)) hb
        replace Kx : Hid (Cw w13 g5 na A5 la.length c5) := Cw.keep (Cw.keep Kx.out (blw1 _ _)) hb
        replace Ky : Hid (Cw w13 g6 nb A6 lb.length c6) := Cw.keep (Cw.keep Ky.out (blw1 _ _)) hb
        replace Ks : Hid (Cw w13 w11.heap.size (addS na la nb lb).1.1 A11 (addS na la nb lb).1.2.length c11) := Cw.keep (Cw.keep Ks.out (blw1 _ _)) hb
        have Kt : Hid (Cw w13 w12.heap.size (addS na la nb lb).1.1 A12 (addS na la nb lb).1.2.length c12) := Cw.keep (Cw.fresh (by simp) _ _ _ _ _) hb
        replace Sa : Hid (Sl w13 A1 la ca) := Sl.below (Sa.out.alloc _) hb
        replace Sb : Hid (Sl w13 A2 lb cb) := Sl.below (Sb.out.alloc _) hb
        replace Sx : Hid (Sl w13 A5 la c5) := Sl.below (Sx.out.alloc _) hb
        replace Sy : Hid (Sl w13 A6 lb c6) := Sl.below (Sy.out.alloc _) hb
        replace Ss : Hid (Sl w13 A11 (addS na la nb lb).1.2 c11) := Sl.below (Ss.out.alloc _) hb
        replace St : Hid (Sl w13 A12 (addS na la nb lb).1.2 c12) := Sl.below (St.out.alloc _) hb
        replace B : Hid (Below w.heap.size w w13) := below_mono (below_mono B.out (blw1 _ _)) hb
        clear hb
        have Sd : Hid (Sl w13 A13 (subS na la nb lb).1.2 c13) := hs13
        clear hs13
        obtain ⟨qa0, qa1⟩ := Ka.out
        obtain ⟨qb0, qb1⟩ := Kb.out
        obtain ⟨qx0, qx1⟩ := Kx.out
        obtain ⟨qy0, qy1⟩ := Ky.out
        replace hza : w.heap.size < w13.heap.size := lt_of_cell (a := ⟨w.heap.size, 0, none⟩) Ka.out.1
        replace hzb : w.heap.size + 1 < w13.heap.size := lt_of_cell (a := ⟨w.heap.size + 1, 0, none⟩) Kb.out.1
        replace hzx : g5 < w13.heap.size := lt_of_cell (a := ⟨g5, 0, none⟩) Kx.out.1
        replace hzy : g6 < w13.heap.size := lt_of_cell (a := ⟨g6, 0, none⟩) Ky.out.1
        replace hzs : w11.heap.size < w13.heap.size := lt_of_cell (a := ⟨w11.heap.size, 0, none⟩) Ks.out.1
        have hzt : w12.heap.size < w13.heap.size := lt_of_cell (a := ⟨w12.heap.size, 0, none⟩) Kt.out.1
        go_wp2_with fail
        refine (rsub_any _ _ _ _ _ _ _ _ _ (Sx.out.alloc _) (Sy.out.alloc _)).mono ?_
        rintro e w14 ⟨A14, c14, rfl, hs14, hb⟩
        clear qa0 qa1 qb0 qb1 qx0 qx1 qy0 qy1
        replace Ka : Hid (Cw w14 w.heap.size na A1 la.length ca) := Cw.keep (Cw.keep Ka.out (blw1 _ _)) hb
        replace Kb : Hid (Cw w14 (w.heap.size + 1) nb A2 lb.length cb) := Cw.keep (Cw.keep Kb.out (blw1 _ _)) hb
        replace Kx : Hid (Cw w14 g5 na A5 la.length c5) := Cw.keep (Cw.keep Kx.out (blw1 _ _)) hb
        replace Ky : Hid (Cw w14 g6 nb A6 lb.length c6) := Cw.keep (Cw.keep Ky.out (blw1 _ _)) hb
        replace Ks : Hid (Cw w14 w11.heap.size (addS na la nb lb).1.1 A11 (addS na la nb lb).1.2.length c11) := Cw.keep (Cw.keep Ks.out (blw1 _ _)) hb
        replace Kt : Hid (Cw w14 w12.heap.size (addS na la nb lb).1.1 A12 (addS na la nb lb).1.2.length c12) := Cw.keep (Cw.keep Kt.out (blw1 _ _)) hb
        have Kd : Hid (Cw w14 w13.heap.size (subS na la nb lb).1.1 A13 (subS na la nb lb).1.2.length c13) := Cw.keep (Cw.fresh (by simp) _ _ _ _ _) hb
        replace Sa : Hid (Sl w14 A1 la ca) := Sl.below (Sa.out.alloc _) hb
        replace Sb : Hid (Sl w14 A2 lb cb) := Sl.below (Sb.out.alloc _) hb
        replace Sx : Hid (Sl w14 A5 la c5) := Sl.below (Sx.out.alloc _) hb
        replace Sy : Hid (Sl w14 A6 lb c6) := Sl.below (Sy.out.alloc _) hb
        replace Ss : Hid (Sl w14 A11 (addS na la nb lb).1.2 c11) := Sl.below (Ss.out.alloc _) hb
        replace St : Hid (Sl w14 A12 (addS na la nb lb).1.2 c12) := Sl.below (St.out.alloc _) hb
        replace Sd : Hid (Sl w14 A13 (subS na la nb lb).1.2 c13) := Sl.below (Sd.out.alloc _) hb
        replace B : Hid (Below w.heap.size w w14) := below_mono (below_mono B.out (blw1 _ _)) hb
        clear hb
        have Sc : Hid (Sl w14 A14 (subS na la nb lb).1.2 c14) := hs14
        clear hs14
        obtain ⟨qa0, qa1⟩ := Ka.out
        obtain ⟨qb0, qb1⟩ := Kb.out
        obtain ⟨qx0, qx1⟩ := Kx.out
        obtain ⟨qy0, qy1⟩ := Ky.out
        replace hza : w.heap.size < w14.heap.size := lt_of_cell (a := ⟨w.heap.size, 0, none⟩) Ka.out.1
        replace hzb : w.heap.size + 1 < w14.heap.size := lt_of_cell (a := ⟨w.heap.size + 1, 0, none⟩) Kb.out.1
        replace hzx : g5 < w14.heap.size := lt_of_cell (a := ⟨g5, 0, none⟩) Kx.out.1
        replace hzy : g6 < w14.heap.size := lt_of_cell (a := ⟨g6, 0, none⟩) Ky.out.1
        replace hzs : w11.heap.size < w14.heap.size := lt_of_cell (a := ⟨w11.heap.size, 0, none⟩) Ks.out.1
        replace hzt : w12.heap.size < w14.heap.size := lt_of_cell (a := ⟨w12.heap.size, 0, none⟩) Kt.out.1
        have hzd : w13.heap.size < w14.heap.size := lt_of_cell (a := ⟨w13.heap.size, 0, none⟩) Kd.out.1
        go_wp2_with fail
        refine (wmul_any _ _ _ _ _ _ _ _ _ (Sa.out.alloc _) (Sb.out.alloc _)).mono ?_
        rintro e w15 ⟨A15, c15, rfl, hs15, hb⟩
        clear qa0 qa1 qb0 qb1 qx0 qx1 qy0 qy1
        replace Ka : Hid (Cw w15 w.heap.size na A1 la.length ca) := Cw.keep (Cw.keep Ka.out (blw1 _ _)) hb
        replace Kb : Hid (Cw w15 (w.heap.size + 1) nb A2 lb.length cb) := Cw.keep (Cw.keep Kb.out (blw1 _ _)) hb
        replace Kx : Hid (Cw w15 g5 na A5 la.length c5) := Cw.keep (Cw.keep Kx.out (blw1 _ _)) hb
        replace Ky : Hid (Cw w15 g6 nb A6 lb.length c6) := Cw.keep (Cw.keep Ky.out (blw1 _ _)) hb
        replace Ks : Hid (Cw w15 w11.heap.size (addS na la nb lb).1.1 A11 (addS na la nb lb).1.2.length c11) := Cw.keep (Cw.keep Ks.out (blw1 _ _)) hb
        replace Kt : Hid (Cw w15 w12.heap.size (addS na la nb lb).1.1 A12 (addS na la nb lb).1.2.length c12) := Cw.keep (Cw.keep Kt.out (blw1 _ _)) hb
        replace Kd : Hid (Cw w15 w13.heap.size (subS na la nb lb).1.1 A13 (subS na la nb lb).1.2.length c13) := Cw.keep (Cw.keep Kd.out (blw1 _ _)) hb
        have Kc : Hid (Cw w15 w14.heap.size (subS na la nb lb).1.1 A14 (subS na la nb lb).1.2.length c14) := Cw.keep (Cw.fresh (by simp) _ _ _ _ _) hb
        replace Sa : Hid (Sl w15 A1 la ca) := Sl.below (Sa.out.alloc _) hb
        replace Sb : Hid (Sl w15 A2 lb cb) := Sl.below (Sb.out.alloc _) hb
        replace Sx : Hid (Sl w15 A5 la c5) := Sl.below (Sx.out.alloc _) hb
        replace Sy : Hid (Sl w15 A6 lb c6) := Sl.below (Sy.out.alloc _) hb
        replace Ss : Hid (Sl w15 A11 (addS na la nb lb).1.2 c11) := Sl.below (Ss.out.alloc _) hb
        replace St : Hid (Sl w15 A12 (addS na la nb lb).1.2 c12) := Sl.below (St.out.alloc _) hb
        replace Sd : Hid (Sl w15 A13 (subS na la nb lb).1.2 c13) := Sl.below (Sd.out.alloc _) hb
        replace Sc : Hid (Sl w15 A14 (subS na la nb lb).1.2 c14) := Sl.below (Sc.out.alloc _) hb
        replace B : Hid (Below w.heap.size w w15) := below_mono (below_mono B.out (blw1 _ _)) hb
        clear hb
        have Sp : Hid (Sl w15 A15 (mulS na la nb lb).1.2 c15) := hs15
        clear hs15
        obtain ⟨qa0, qa1⟩ := Ka.out
        obtain ⟨qb0, qb1⟩ := Kb.out
        obtain ⟨qx0, qx1⟩ := Kx.out
        obtain ⟨qy0, qy1⟩ := Ky.out
        replace hza : w.heap.size < w15.heap.size := lt_of_cell (a := ⟨w.heap.size, 0, none⟩) Ka.out.1
        replace hzb : w.heap.size + 1 < w15.heap.size := lt_of_cell (a := ⟨w.heap.size + 1, 0, none⟩) Kb.out.1
        replace hzx : g5 < w15.heap.size := lt_of_cell (a := ⟨g5, 0, none⟩) Kx.out.1
        replace hzy : g6 < w15.heap.size := lt_of_cell (a := ⟨g6, 0, none⟩) Ky.out.1
        replace hzs : w11.heap.size < w15.heap.size := lt_of_cell (a := ⟨w11.heap.size, 0, none⟩) Ks.out.1
        replace hzt : w12.heap.size < w15.heap.size := lt_of_cell (a := ⟨w12.heap.size, 0, none⟩) Kt.out.1
        replace hzd : w13.heap.size < w15.heap.size := lt_of_cell (a := ⟨w13.heap.size, 0, none⟩) Kd.out.1
        have hzc : w14.heap.size < w15.heap.size := lt_of_cell (a := ⟨w14.heap.size, 0, none⟩) Kc.out.1
        go_wp2_with fail
        refine (rmul_any _ _ _ _ _ _ _ _ _ (Sx.out.alloc _) (Sy.out.alloc _)).mono ?_
        rintro e w16 ⟨A16, c16, rfl, hs16, hb⟩
        clear qa0 qa1 qb0 qb1 qx0 qx1 qy0 qy1
        replace Ka : Hid (Cw w16 w.heap.size na A1 la.length ca) := Cw.keep (Cw.keep Ka.out (blw1 _ _)) hb
        replace Kb : Hid (Cw w16 (w.heap.size + 1) nb A2 lb.length cb) := Cw.keep (Cw.keep Kb.out (blw1 _ _)) hb
        replace Kx : Hid (Cw w16 g5 na A5 la.length c5) := Cw.keep (Cw.keep Kx.out (blw1 _ _)) hb
        replace Ky : Hid (Cw w16 g6 nb A6 lb.length c6) := Cw.keep (Cw.keep Ky.out (blw1 _ _)) hb
        replace Ks : Hid (Cw w16 w11.heap.size (addS na la nb lb).1.1 A11 (addS na la nb lb).1.2.length c11) := Cw.keep (Cw.keep Ks.out (blw1 _ _)) hb
        replace Kt : Hid (Cw w16 w12.heap.size (addS na la nb lb).1.1 A12 (addS na la nb lb).1.2.length c12) := Cw.keep (Cw.keep Kt.out (blw1 _ _)) hb
        replace Kd : Hid (Cw w16 w13.heap.size (subS na la nb lb).1.1 A13 (subS na la nb lb).1.2.length c13) := Cw.keep (Cw.keep Kd.out (blw1 _ _)) hb
        replace Kc : Hid (Cw w16 w14.heap.size (subS na la nb lb).1.1 A14 (subS na la nb lb).1.2.length c14) := Cw.keep (Cw.keep Kc.out (blw1 _ _)) hb
        have Kp : Hid (Cw w16 w15.heap.size (mulS na la nb lb).1.1 A15 (mulS na la nb lb).1.2.length c15) := Cw.keep (Cw.fresh (by simp) _ _ _ _ _) hb
        replace Sa : Hid (Sl w16 A1 la ca) := Sl.below (Sa.out.alloc _) hb
        replace Sb : Hid (Sl w16 A2 lb cb) := Sl.below (Sb.out.alloc _) hb
        replace Sx : Hid (Sl w16 A5 la c5) := Sl.below (Sx.out.alloc _) hb
        replace Sy : Hid (Sl w16 A6 lb c6) := Sl.below (Sy.out.alloc _) hb
        replace Ss : Hid (Sl w16 A11 (addS na la nb lb).1.2 c11) := Sl.below (Ss.out.alloc _) hb
        replace St : Hid (Sl w16 A12 (addS na la nb lb).1.2 c12) := Sl.below (St.out.alloc _) hb
        replace Sd : Hid (Sl w16 A13 (subS na la nb lb).1.2 c13) := Sl.below (Sd.out.alloc _) hb
        replace Sc : Hid (Sl w16 A14 (subS na la nb lb).1.2 c14) := Sl.below (Sc.out.alloc _) hb
        replace Sp : Hid (Sl w16 A15 (mulS na la nb lb).1.2 c15) := Sl.below (Sp.out.alloc _) hb
        replace B : Hid (Below w.heap.size w w16) := below_mono (below_mono B.out (blw1 _ _)) hb
        clear hb
        have So : Hid (Sl w16 A16 (mulS na la nb lb).1.2 c16) := hs16
        clear hs16
        obtain ⟨qa0, qa1⟩ := Ka.out
        obtain ⟨qb0, qb1⟩ := Kb.out
        obtain ⟨qx0, qx1⟩ := Kx.out
        obtain ⟨qy0, qy1⟩ := Ky.out
        replace hza : w.heap.size < w16.heap.size := lt_of_cell (a := ⟨w.heap.size, 0, none⟩) Ka.out.1
        replace hzb : w.heap.size + 1 < w16.heap.size := lt_of_cell (a := ⟨w.heap.size + 1, 0, none⟩) Kb.out.1
        replace hzx : g5 < w16.heap.size := lt_of_cell (a := ⟨g5, 0, none⟩) Kx.out.1
        replace hzy : g6 < w16.heap.size := lt_of_cell (a := ⟨g6, 0, none⟩) Ky.out.1
        replace hzs : w11.heap.size < w16.heap.size := lt_of_cell (a := ⟨w11.heap.size, 0, none⟩) Ks.out.1
        replace hzt : w12.heap.size < w16.heap.size := lt_of_cell (a := ⟨w12.heap.size, 0, none⟩) Kt.out.1
        replace hzd : w13.heap.size < w16.heap.size := lt_of_cell (a := ⟨w13.heap.size, 0, none⟩) Kd.out.1
        replace hzc : w14.heap.size < w16.heap.size := lt_of_cell (a := ⟨w14.heap.size, 0, none⟩) Kc.out.1
        have hzp : w15.heap.size < w16.heap.size := lt_of_cell (a := ⟨w15.heap.size, 0, none⟩) Kp.out.1
        go_wp2_with fail
        refine (wdivmod_any _ _ _ _ _ _ _ _ _ (Sa.out.alloc _) (Sb.out.alloc _)).mono ?_
        rintro e w17 ⟨A17, c17, B17, d17, rfl, hs17, ht17, hb⟩
        clear qa0 qa1 qb0 qb1 qx0 qx1 qy0 qy1
        replace Ka : Hid (Cw w17 w.heap.size na A1 la.length ca) := Cw.keep (Cw.keep Ka.out (blw1 _ _)) hb
        replace Kb : Hid (Cw w17 (w.heap.size + 1) nb A2 lb.length cb) := Cw.keep (Cw.keep Kb.out (blw1 _ _)) hb
        replace Kx : Hid (Cw w17 g5 na A5 la.length c5) := Cw.keep (Cw.keep Kx.out (blw1 _ _)) hb
        replace Ky : Hid (Cw w17 g6 nb A6 lb.length c6) := Cw.keep (Cw.keep Ky.out (blw1 _ _)) hb
        replace Ks : Hid (Cw w17 w11.heap.size (addS na la nb lb).1.1 A11 (addS na la nb lb).1.2.length c11) := Cw.keep (Cw.keep Ks.out (blw1 _ _)) hb
        replace Kt : Hid (Cw w17 w12.heap.size (addS na la nb lb).1.1 A12 (addS na la nb lb).1.2.length c12) := Cw.keep (Cw.keep Kt.out (blw1 _ _)) hb
        replace Kd : Hid (Cw w17 w13.heap.size (subS na la nb lb).1.1 A13 (subS na la nb lb).1.2.length c13) := Cw.keep (Cw.keep Kd.out (blw1 _ _)) hb
        replace Kc : Hid (Cw w17 w14.heap.size (subS na la nb lb).1.1 A14 (subS na la nb lb).1.2.length c14) := Cw.keep (Cw.keep Kc.out (blw1 _ _)) hb
        replace Kp : Hid (Cw w17 w15.heap.size (mulS na la nb lb).1.1 A15 (mulS na la nb lb).1.2.length c15) := Cw.keep (Cw.keep Kp.out (blw1 _ _)) hb
        have Ko : Hid (Cw w17 w16.heap.size (mulS na la nb lb).1.1 A16 (mulS na la nb lb).1.2.length c16) := Cw.keep (Cw.fresh (by simp) _ _ _ _ _) hb
        replace Sa : Hid (Sl w17 A1 la ca) := Sl.below (Sa.out.alloc _) hb
        replace Sb : Hid (Sl w17 A2 lb cb) := Sl.below (Sb.out.alloc _) hb
        replace Sx : Hid (Sl w17 A5 la c5) := Sl.below (Sx.out.alloc _) hb
        replace Sy : Hid (Sl w17 A6 lb c6) := Sl.below (Sy.out.alloc _) hb
        replace Ss : Hid (Sl w17 A11 (addS na la nb lb).1.2 c11) := Sl.below (Ss.out.alloc _) hb
        replace St : Hid (Sl w17 A12 (addS na la nb lb).1.2 c12) := Sl.below (St.out.alloc _) hb
        replace Sd : Hid (Sl w17 A13 (subS na la nb lb).1.2 c13) := Sl.below (Sd.out.alloc _) hb
        replace Sc : Hid (Sl w17 A14 (subS na la nb lb).1.2 c14) := Sl.below (Sc.out.alloc _) hb
        replace Sp : Hid (Sl w17 A15 (mulS na la nb lb).1.2 c15) := Sl.below (Sp.out.alloc _) hb
        replace So : Hid (Sl w17 A16 (mulS na la nb lb).1.2 c16) := Sl.below (So.out.alloc _) hb
        replace B : Hid (Below w.heap.size w w17) := below_mono (below_mono B.out (blw1 _ _)) hb
        clear hb
        have Sq : Hid (Sl w17 A17 (dmS na la nb lb).1.2 c17) := hs17
        have Sr : Hid (Sl w17 B17 (dmS na la nb lb).2.1.2 d17) := ht17
        clear hs17 ht17
        obtain ⟨qa0, qa1⟩ := Ka.out
        obtain ⟨qb0, qb1⟩ := Kb.out
        obtain ⟨qx0, qx1⟩ := Kx.out
        obtain ⟨qy0, qy1⟩ := Ky.out
        replace hza : w.heap.size < w17.heap.size := lt_of_cell (a := ⟨w.heap.size, 0, none⟩) Ka.out.1
        replace hzb : w.heap.size + 1 < w17.heap.size := lt_of_cell (a := ⟨w.heap.size + 1, 0, none⟩) Kb.out.1
        replace hzx : g5 < w17.heap.size := lt_of_cell (a := ⟨g5, 0, none⟩) Kx.out.1
        replace hzy : g6 < w17.heap.size := lt_of_cell (a := ⟨g6, 0, none⟩) Ky.out.1
        replace hzs : w11.heap.size < w17.heap.size := lt_of_cell (a := ⟨w11.heap.size, 0, none⟩) Ks.out.1
        replace hzt : w12.heap.size < w17.heap.size := lt_of_cell (a := ⟨w12.heap.size, 0, none⟩) Kt.out.1
        replace hzd : w13.heap.size < w17.heap.size := lt_of_cell (a := ⟨w13.heap.size, 0, none⟩) Kd.out.1
        replace hzc : w14.heap.size < w17.heap.size := lt_of_cell (a := ⟨w14.heap.size, 0, none⟩) Kc.out.1
        replace hzp : w15.heap.size < w17.heap.size := lt_of_cell (a := ⟨w15.heap.size, 0, none⟩) Kp.out.1
        have hzo : w16.heap.size < w17.heap.size := lt_of_cell (a := ⟨w16.heap.size, 0, none⟩) Ko.out.1
        go_wp2_with fail
        refine (rdivmod_any _ _ _ _ _ _ _ _ _ ((Sx.out.alloc _).alloc _) ((Sy.out.alloc _).alloc _)).mono ?_
        rintro e w18 ⟨A18, c18, B18, d18, rfl, hs18, ht18, hb⟩
        clear qa0 qa1 qb0 qb1 qx0 qx1 qy0 qy1
        replace Ka : Hid (Cw w18 w.heap.size na A1 la.length ca) := Cw.keep (Cw.keep (Cw.keep Ka.out (blw1 _ _)) (blw1 _ _)) hb
        replace Kb : Hid (Cw w18 (w.heap.size + 1) nb A2 lb.length cb) := Cw.keep (Cw.keep (Cw.keep Kb.out (blw1 _ _)) (blw1 _ _)) hb
        replace Kx : Hid (Cw w18 g5 na A5 la.length c5) := Cw.keep (Cw.keep (Cw.keep Kx.out (blw1 _ _)) (blw1 _ _)) hb
        replace Ky : Hid (Cw w18 g6 nb A6 lb.length c6) := Cw.keep (Cw.keep (Cw.keep Ky.out (blw1 _ _)) (blw1 _ _)) hb
        replace Ks : Hid (Cw w18 w11.heap.size (addS na la nb lb).1.1 A11 (addS na la nb lb).1.2.length c11) := Cw.keep (Cw.keep (Cw.keep Ks.out (blw1 _ _)) (blw1 _ _)) hb
        replace Kt : Hid (Cw w18 w12.heap.size (addS na la nb lb).1.1 A12 (addS na la nb lb).1.2.length c12) := Cw.keep (Cw.keep (Cw.keep Kt.out (blw1 _ _)) (blw1 _ _)) hb
        replace Kd : Hid (Cw w18 w13.heap.size (subS na la nb lb).1.1 A13 (subS na la nb lb).1.2.length c13) := Cw.keep (Cw.keep (Cw.keep Kd.out (blw1 _ _)) (blw1 _ _)) hb
        replace Kc : Hid (Cw w18 w14.heap.size (subS na la nb lb).1.1 A14 (subS na la nb lb).1.2.length c14) := Cw.keep (Cw.keep (Cw.keep Kc.out (blw1 _ _)) (blw1 _ _)) hb
        replace Kp : Hid (Cw w18 w15.heap.size (mulS na la nb lb).1.1 A15 (mulS na la nb lb).1.2.length c15) := Cw.keep (Cw.keep (Cw.keep Kp.out (blw1 _ _)) (blw1 _ _)) hb
        replace Ko : Hid (Cw w18 w16.heap.size (mulS na la nb lb).1.1 A16 (mulS na la nb lb).1.2.length c16) := Cw.keep (Cw.keep (Cw.keep Ko.out (blw1 _ _)) (blw1 _ _)) hb
        have Kq : Hid (Cw w18 w17.heap.size (dmS na la nb lb).1.1 A17 (dmS na la nb lb).1.2.length c17) := Cw.keep (Cw.keep (Cw.fresh (by simp) _ _ _ _ _) (blw1 _ _)) hb
        have Kr : Hid (Cw w18 (w17.heap.size + 1) (dmS na la nb lb).2.1.1 B17 (dmS na la nb lb).2.1.2.length d17) := Cw.keep (Cw.fresh (by simp) _ _ _ _ _) hb
        replace Sa : Hid (Sl w18 A1 la ca) := Sl.below ((Sa.out.alloc _).alloc _) hb
        replace Sb : Hid (Sl w18 A2 lb cb) := Sl.below ((Sb.out.alloc _).alloc _) hb
        replace Sx : Hid (Sl w18 A5 la c5) := Sl.below ((Sx.out.alloc _).alloc _) hb
        replace Sy : Hid (Sl w18 A6 lb c6) := Sl.below ((Sy.out.alloc _).alloc _) hb
        replace Ss : Hid (Sl w18 A11 (addS na la nb lb).1.2 c11) := Sl.below ((Ss.out.alloc _).alloc _) hb
        replace St : Hid (Sl w18 A12 (addS na la nb lb).1.2 c12) := Sl.below ((St.out.alloc _).alloc _) hb
        replace Sd : Hid (Sl w18 A13 (subS na la nb lb).1.2 c13) := Sl.below ((Sd.out.alloc _).alloc _) hb
        replace Sc : Hid (Sl w18 A14 (subS na la nb lb).1.2 c14) := Sl.below ((Sc.out.alloc _).alloc _) hb
        replace Sp : Hid (Sl w18 A15 (mulS na la nb lb).1.2 c15) := Sl.below ((Sp.out.alloc _).alloc _) hb
        replace So : Hid (Sl w18 A16 (mulS na la nb lb).1.2 c16) := Sl.below ((So.out.alloc _).alloc _) hb
        replace Sq : Hid (Sl w18 A17 (dmS na la nb lb).1.2 c17) := Sl.below ((Sq.out.alloc _).alloc _) hb
        replace Sr : Hid (Sl w18 B17 (dmS na la nb lb).2.1.2 d17) := Sl.below ((Sr.out.alloc _).alloc _) hb
        replace B : Hid (Below w.heap.size w w18) := below_mono (below_mono (below_mono B.out (blw1 _ _)) (blw1 _ _)) hb
        clear hb
        have Su : Hid (Sl w18 A18 (dmS na la nb lb).1.2 c18) := hs18
        have Sv : Hid (Sl w18 B18 (dmS na la nb lb).2.1.2 d18) := ht18
        clear hs18 ht18
        obtain ⟨qa0, qa1⟩ := Ka.out
        obtain ⟨qb0, qb1⟩ := Kb.out
        obtain ⟨qx0, qx1⟩ := Kx.out
        obtain ⟨qy0, qy1⟩ := Ky.out
        replace hza : w.heap.size < w18.heap.size := lt_of_cell (a := ⟨w.heap.size, 0, none⟩) Ka.out.1
        replace hzb : w.heap.size + 1 < w18.heap.size := lt_of_cell (a := ⟨w.heap.size + 1, 0, none⟩) Kb.out.1
        replace hzx : g5 < w18.heap.size := lt_of_cell (a := ⟨g5, 0, none⟩) Kx.out.1
        replace hzy : g6 < w18.heap.size := lt_of_cell (a := ⟨g6, 0, none⟩) Ky.out.1
        replace hzs : w11.heap.size < w18.heap.size := lt_of_cell (a := ⟨w11.heap.size, 0, none⟩) Ks.out.1
        replace hzt : w12.heap.size < w18.heap.size := lt_of_cell (a := ⟨w12.heap.size, 0, none⟩) Kt.out.1
        replace hzd : w13.heap.size < w18.heap.size := lt_of_cell (a := ⟨w13.heap.size, 0, none⟩) Kd.out.1
        replace hzc : w14.heap.size < w18.heap.size := lt_of_cell (a := ⟨w14.heap.size, 0, none⟩) Kc.out.1
        replace hzp : w15.heap.size < w18.heap.size := lt_of_cell (a := ⟨w15.heap.size, 0, none⟩) Kp.out.1
        replace hzo : w16.heap.size < w18.heap.size := lt_of_cell (a := ⟨w16.heap.size, 0, none⟩) Ko.out.1
        have hzq : w17.heap.size < w18.heap.size := lt_of_cell (a := ⟨w17.heap.size, 0, none⟩) Kq.out.1
        have hzr : w17.heap.size + 1 < w18.heap.size := lt_of_cell (a := ⟨w17.heap.size + 1, 0, none⟩) Kr.out.1
        clear qa0 qa1 qb0 qb1 qx0 qx1 qy0 qy1
        obtain ⟨qs0, qs1⟩ := Ks.out
        obtain ⟨qt0, qt1⟩ := Kt.out
        go_wp2_with fail
        refine (same_self _ _ _ _ _ _ _ ((Ss.out.alloc _).alloc _) ((St.out.alloc _).alloc _)).mono ?_
        rintro e w19 ⟨rfl, hb⟩
        clear qs0 qs1 qt0 qt1
        replace Ka : Hid (Cw w19 w.heap.size na A1 la.length ca) := Cw.keep (Cw.keep (Cw.keep Ka.out (blw1 _ _)) (blw1 _ _)) hb
        replace Kb : Hid (Cw w19 (w.heap.size + 1) nb A2 lb.length cb) := Cw.keep (Cw.keep (Cw.keep Kb.out (blw1 _ _)) (blw1 _ _)) hb
        replace Kx : Hid (Cw w19 g5 na A5 la.length c5) := Cw.keep (Cw.keep (Cw.keep Kx.out (blw1 _ _)) (blw1 _ _)) hb
        replace Ky : Hid (Cw w19 g6 nb A6 lb.length c6) := Cw.keep (Cw.keep (Cw.keep Ky.out (blw1 _ _)) (blw1 _ _)) hb
        replace Ks : Hid (Cw w19 w11.heap.size (addS na la nb lb).1.1 A11 (addS na la nb lb).1.2.length c11) := Cw.keep (Cw.keep (Cw.keep Ks.out (blw1 _ _)) (blw1 _ _)) hb
        replace Kt : Hid (Cw w19 w12.heap.size (addS na la nb lb).1.1 A12 (addS na la nb lb).1.2.length c12) := Cw.keep (Cw.keep (Cw.keep Kt.out (blw1 _ _)) (blw1 _ _)) hb
        replace Kd : Hid (Cw w19 w13.heap.size (subS na la nb lb).1.1 A13 (subS na la nb lb).1.2.length c13) := Cw.keep (Cw.keep (Cw.keep Kd.out (blw1 _ _)) (blw1 _ _)) hb
        replace Kc : Hid (Cw w19 w14.heap.size (subS na la nb lb).1.1 A14 (subS na la nb lb).1.2.length c14) := Cw.keep (Cw.keep (Cw.keep Kc.out (blw1 _ _)) (blw1 _ _)) hb
        replace Kp : Hid (Cw w19 w15.heap.size (mulS na la nb lb).1.1 A15 (mulS na la nb lb).1.2.length c15) := Cw.keep (Cw.keep (Cw.keep Kp.out (blw1 _ _)) (blw1 _ _)) hb
        replace Ko : Hid (Cw w19 w16.heap.size (mulS na la nb lb).1.1 A16 (mulS na la nb lb).1.2.length c16) := Cw.keep (Cw.keep (Cw.keep Ko.out (blw1 _ _)) (blw1 _ _)) hb
        replace Kq : Hid (Cw w19 w17.heap.size (dmS na la nb lb).1.1 A17 (dmS na la nb lb).1.2.length c17) := Cw.keep (Cw.keep (Cw.keep Kq.out (blw1 _ _)) (blw1 _ _)) hb
        replace Kr : Hid (Cw w19 (w17.heap.size + 1) (dmS na la nb lb).2.1.1 B17 (dmS na la nb lb).2.1.2.length d17) := Cw.keep (Cw.keep (Cw.keep Kr.out (blw1 _ _)) (blw1 _ _)) hb
        have Ku : Hid (Cw w19 w18.heap.size (dmS na la nb lb).1.1 A18 (dmS na la nb lb).1.2.length c18) := Cw.keep (Cw.keep (Cw.fresh (by simp) _ _ _ _ _) (blw1 _ _)) hb
        have Kv : Hid (Cw w19 (w18.heap.size + 1) (dmS na la nb lb).2.1.1 B18 (dmS na la nb lb).2.1.2.length d18) := Cw.keep (Cw.fresh (by simp) _ _ _ _ _) hb
        replace Sa : Hid (Sl w19 A1 la ca) := Sl.below ((Sa.out.alloc _).alloc _) hb
        replace Sb : Hid (Sl w19 A2 lb cb) := Sl.below ((Sb.out.alloc _).alloc _) hb
        replace Sx : Hid (Sl w19 A5 la c5) := Sl.below ((Sx.out.alloc _).alloc _) hb
        replace Sy : Hid (Sl w19 A6 lb c6) := Sl.below ((Sy.out.alloc _).alloc _) hb
        replace Ss : Hid (Sl w19 A11 (addS na la nb lb).1.2 c11) := Sl.below ((Ss.out.alloc _).alloc _) hb
        replace St : Hid (Sl w19 A12 (addS na la nb lb).1.2 c12) := Sl.below ((St.out.alloc _).alloc _) hb
        replace Sd : Hid (Sl w19 A13 (subS na la nb lb).1.2 c13) := Sl.below ((Sd.out.alloc _).alloc _) hb
        replace Sc : Hid (Sl w19 A14 (subS na la nb lb).1.2 c14) := Sl.below ((Sc.out.alloc _).alloc _) hb
        replace Sp : Hid (Sl w19 A15 (mulS na la nb lb).1.2 c15) := Sl.below ((Sp.out.alloc _).alloc _) hb
        replace So : Hid (Sl w19 A16 (mulS na la nb lb).1.2 c16) := Sl.below ((So.out.alloc _).alloc _) hb
        replace Sq : Hid (Sl w19 A17 (dmS na la nb lb).1.2 c17) := Sl.below ((Sq.out.alloc _).alloc _) hb
        replace Sr : Hid (Sl w19 B17 (dmS na la nb lb).2.1.2 d17) := Sl.below ((Sr.out.alloc _).alloc _) hb
        replace Su : Hid (Sl w19 A18 (dmS na la nb lb).1.2 c18) := Sl.below ((Su.out.alloc _).alloc _) hb
        replace Sv : Hid (Sl w19 B18 (dmS na la nb lb).2.1.2 d18) := Sl.below ((Sv.out.alloc _).alloc _) hb
        replace B : Hid (Below w.heap.size w w19) := below_mono (below_mono (below_mono B.out (blw1 _ _)) (blw1 _ _)) hb
        clear hb
        replace hza : w.heap.size < w19.heap.size := lt_of_cell (a := ⟨w.heap.size, 0, none⟩) Ka.out.1
        replace hzb : w.heap.size + 1 < w19.heap.size := lt_of_cell (a := ⟨w.heap.size + 1, 0, none⟩) Kb.out.1
        replace hzx : g5 < w19.heap.size := lt_of_cell (a := ⟨g5, 0, none⟩) Kx.out.1
        replace hzy : g6 < w19.heap.size := lt_of_cell (a := ⟨g6, 0, none⟩) Ky.out.1
        replace hzs : w11.heap.size < w19.heap.size := lt_of_cell (a := ⟨w11.heap.size, 0, none⟩) Ks.out.1
        replace hzt : w12.heap.size < w19.heap.size := lt_of_cell (a := ⟨w12.heap.size, 0, none⟩) Kt.out.1
        replace hzd : w13.heap.size < w19.heap.size := lt_of_cell (a := ⟨w13.heap.size, 0, none⟩) Kd.out.1
        replace hzc : w14.heap.size < w19.heap.size := lt_of_cell (a := ⟨w14.heap.size, 0, none⟩) Kc.out.1
        replace hzp : w15.heap.size < w19.heap.size := lt_of_cell (a := ⟨w15.heap.size, 0, none⟩) Kp.out.1
        replace hzo : w16.heap.size < w19.heap.size := lt_of_cell (a := ⟨w16.heap.size, 0, none⟩) Ko.out.1
        replace hzq : w17.heap.size < w19.heap.size := lt_of_cell (a := ⟨w17.heap.size, 0, none⟩) Kq.out.1
        replace hzr : w17.heap.size + 1 < w19.heap.size := lt_of_cell (a := ⟨w17.heap.size + 1, 0, none⟩) Kr.out.1
        have hzu : w18.heap.size < w19.heap.size := lt_of_cell (a := ⟨w18.heap.size, 0, none⟩) Ku.out.1
        have hzv : w18.heap.size + 1 < w19.heap.size := lt_of_cell (a := ⟨w18.heap.size + 1, 0, none⟩) Kv.out.1
        obtain ⟨qd0, qd1⟩ := Kd.out
        obtain ⟨qc0, qc1⟩ := Kc.out
        go_wp2_with fail
        refine (same_self _ _ _ _ _ _ _ Sd.out Sc.out).mono ?_
        rintro e w20 ⟨rfl, hb⟩
        clear qd0 qd1 qc0 qc1
        replace Ka : Hid (Cw w20 w.heap.size na A1 la.length ca) := Cw.keep Ka.out hb
        replace Kb : Hid (Cw w20 (w.heap.size + 1) nb A2 lb.length cb) := Cw.keep Kb.out hb
        replace Kx : Hid (Cw w20 g5 na A5 la.length c5) := Cw.keep Kx.out hb
        replace Ky : Hid (Cw w20 g6 nb A6 lb.length c6) := Cw.keep Ky.out hb
        replace Ks : Hid (Cw w20 w11.heap.size (addS na la nb lb).1.1 A11 (addS na la nb lb).1.2.length c11) := Cw.keep Ks.out hb
        replace Kt : Hid (Cw w20 w12.heap.size (addS na la nb lb).1.1 A12 (addS na la nb lb).1.2.length c12) := Cw.keep Kt.out hb
        replace Kd : Hid (Cw w20 w13.heap.size (subS na la nb lb).1.1 A13 (subS na la nb lb).1.2.length c13) := Cw.keep Kd.out hb
        replace Kc : Hid (Cw w20 w14.heap.size (subS na la nb lb).1.1 A14 (subS na la nb lb).1.2.length c14) := Cw.keep Kc.out hb
        replace Kp : Hid (Cw w20 w15.heap.size (mulS na la nb lb).1.1 A15 (mulS na la nb lb).1.2.length c15) := Cw.keep Kp.out hb
        replace Ko : Hid (Cw w20 w16.heap.size (mulS na la nb lb).1.1 A16 (mulS na la nb lb).1.2.length c16) := Cw.keep Ko.out hb
        replace Kq : Hid (Cw w20 w17.heap.size (dmS na la nb lb).1.1 A17 (dmS na la nb lb).1.2.length c17) := Cw.keep Kq.out hb
        replace Kr : Hid (Cw w20 (w17.heap.size + 1) (dmS na la nb lb).2.1.1 B17 (dmS na la nb lb).2.1.2.length d17) := Cw.keep Kr.out hb
        replace Ku : Hid (Cw w20 w18.heap.size (dmS na la nb lb).1.1 A18 (dmS na la nb lb).1.2.length c18) := Cw.keep Ku.out hb
        replace Kv : Hid (Cw w20 (w18.heap.size + 1) (dmS na la nb lb).2.1.1 B18 (dmS na la nb lb).2.1.2.length d18) := Cw.keep Kv.out hb
        replace Sa : Hid (Sl w20 A1 la ca) := Sl.below Sa.out hb
        replace Sb : Hid (Sl w20 A2 lb cb) := Sl.below Sb.out hb
        replace Sx : Hid (Sl w20 A5 la c5) := Sl.below Sx.out hb
        replace Sy : Hid (Sl w20 A6 lb c6) := Sl.below Sy.out hb
        replace Ss : Hid (Sl w20 A11 (addS na la nb lb).1.2 c11) := Sl.below Ss.out hb
        replace St : Hid (Sl w20 A12 (addS na la nb lb).1.2 c12) := Sl.below St.out hb
        replace Sd : Hid (Sl w20 A13 (subS na la nb lb).1.2 c13) := Sl.below Sd.out hb
        replace Sc : Hid (Sl w20 A14 (subS na la nb lb).1.2 c14) := Sl.below Sc.out hb
        replace Sp : Hid (Sl w20 A15 (mulS na la nb lb).1.2 c15) := Sl.below Sp.out hb
        replace So : Hid (Sl w20 A16 (mulS na la nb lb).1.2 c16) := Sl.below So.out hb
        replace Sq : Hid (Sl w20 A17 (dmS na la nb lb).1.2 c17) := Sl.below Sq.out hb
        replace Sr : Hid (Sl w20 B17 (dmS na la nb lb).2.1.2 d17) := Sl.below Sr.out hb
        replace Su : Hid (Sl w20 A18 (dmS na la nb lb).1.2 c18) := Sl.below Su.out hb
        replace Sv : Hid (Sl w20 B18 (dmS na la nb lb).2.1.2 d18) := Sl.below Sv.out hb
        replace B : Hid (Below w.heap.size w w20) := below_mono B.out hb
        clear hb
        replace hza : w.heap.size < w20.heap.size := lt_of_cell (a := ⟨w.heap.size, 0, none⟩) Ka.out.1
        replace hzb : w.heap.size + 1 < w20.heap.size := lt_of_cell (a := ⟨w.heap.size + 1, 0, none⟩) Kb.out.1
        replace hzx : g5 < w20.heap.size := lt_of_cell (a := ⟨g5, 0, none⟩) Kx.out.1
        replace hzy : g6 < w20.heap.size := lt_of_cell (a := ⟨g6, 0, none⟩) Ky.out.1
        replace hzs : w11.heap.size < w20.heap.size := lt_of_cell (a := ⟨w11.heap.size, 0, none⟩) Ks.out.1
        replace hzt : w12.heap.size < w20.heap.size := lt_of_cell (a := ⟨w12.heap.size, 0, none⟩) Kt.out.1
        replace hzd : w13.heap.size < w20.heap.size := lt_of_cell (a := ⟨w13.heap.size, 0, none⟩) Kd.out.1
        replace hzc : w14.heap.size < w20.heap.size := lt_of_cell (a := ⟨w14.heap.size, 0, none⟩) Kc.out.1
        replace hzp : w15.heap.size < w20.heap.size := lt_of_cell (a := ⟨w15.heap.size, 0, none⟩) Kp.out.1
        replace hzo : w16.heap.size < w20.heap.size := lt_of_cell (a := ⟨w16.heap.size, 0, none⟩) Ko.out.1
        replace hzq : w17.heap.size < w20.heap.size := lt_of_cell (a := ⟨w17.heap.size, 0, none⟩) Kq.out.1
        replace hzr : w17.heap.size + 1 < w20.heap.size := lt_of_cell (a := ⟨w17.heap.size + 1, 0, none⟩) Kr.out.1
        replace hzu : w18.heap.size < w20.heap.size := lt_of_cell (a := ⟨w18.heap.size, 0, none⟩) Ku.out.1
        replace hzv : w18.heap.size + 1 < w20.heap.size := lt_of_cell (a := ⟨w18.heap.size + 1, 0, none⟩) Kv.out.1
        obtain ⟨qp0, qp1⟩ := Kp.out
        obtain ⟨qo0, qo1⟩ := Ko.out
        go_wp2_with fail
        refine (same_self _ _ _ _ _ _ _ Sp.out So.out).mono ?_
        rintro e w21 ⟨rfl, hb⟩
        clear qp0 qp1 qo0 qo1
        replace Ka : Hid (Cw w21 w.heap.size na A1 la.length ca) := Cw.keep Ka.out hb
        replace Kb : Hid (Cw w21 (w.heap.size + 1) nb A2 lb.length cb) := Cw.keep Kb.out hb
        replace Kx : Hid (Cw w21 g5 na A5 la.length c5) := Cw.keep Kx.out hb
        replace Ky : Hid (Cw w21 g6 nb A6 lb.length c6) := Cw.keep Ky.out hb
        replace Ks : Hid (Cw w21 w11.heap.size (addS na la nb lb).1.1 A11 (addS na la nb lb).1.2.length c11) := Cw.keep Ks.out hb
        replace Kt : Hid (Cw w21 w12.heap.size (addS na la nb lb).1.1 A12 (addS na la nb lb).1.2.length c12) := Cw.keep Kt.out hb
        replace Kd : Hid (Cw w21 w13.heap.size (subS na la nb lb).1.1 A13 (subS na la nb lb).1.2.length c13) := Cw.keep Kd.out hb
        replace Kc : Hid (Cw w21 w14.heap.size (subS na la nb lb).1.1 A14 (subS na la nb lb).1.2.length c14) := Cw.keep Kc.out hb
        replace Kp : Hid (Cw w21 w15.heap.size (mulS na la nb lb).1.1 A15 (mulS na la nb lb).1.2.length c15) := Cw.keep Kp.out hb
        replace Ko : Hid (Cw w21 w16.heap.size (mulS na la nb lb).1.1 A16 (mulS na la nb lb).1.2.length c16) := Cw.keep Ko.out hb
        replace Kq : Hid (Cw w21 w17.heap.size (dmS na la nb lb).1.1 A17 (dmS na la nb lb).1.2.length c17) := Cw.keep Kq.out hb
        replace Kr : Hid (Cw w21 (w17.heap.size + 1) (dmS na la nb lb).2.1.1 B17 (dmS na la nb lb).2.1.2.length d17) := Cw.keep Kr.out hb
        replace Ku : Hid (Cw w21 w18.heap.size (dmS na la nb lb).1.1 A18 (dmS na la nb lb).1.2.length c18) := Cw.keep Ku.out hb
        replace Kv : Hid (Cw w21 (w18.heap.size + 1) (dmS na la nb lb).2.1.1 B18 (dmS na la nb lb).2.1.2.length d18) := Cw.keep Kv.out hb
        replace Sa : Hid (Sl w21 A1 la ca) := Sl.below Sa.out hb
        replace Sb : Hid (Sl w21 A2 lb cb) := Sl.below Sb.out hb
        replace Sx : Hid (Sl w21 A5 la c5) := Sl.below Sx.out hb
        replace Sy : Hid (Sl w21 A6 lb c6) := Sl.below Sy.out hb
        replace Ss : Hid (Sl w21 A11 (addS na la nb lb).1.2 c11) := Sl.below Ss.out hb
        replace St : Hid (Sl w21 A12 (addS na la nb lb).1.2 c12) := Sl.below St.out hb
        replace Sd : Hid (Sl w21 A13 (subS na la nb lb).1.2 c13) := Sl.below Sd.out hb
        replace Sc : Hid (Sl w21 A14 (subS na la nb lb).1.2 c14) := Sl.below Sc.out hb
        replace Sp : Hid (Sl w21 A15 (mulS na la nb lb).1.2 c15) := Sl.below Sp.out hb
        replace So : Hid (Sl w21 A16 (mulS na la nb lb).1.2 c16) := Sl.below So.out hb
        replace Sq : Hid (Sl w21 A17 (dmS na la nb lb).1.2 c17) := Sl.below Sq.out hb
        replace Sr : Hid (Sl w21 B17 (dmS na la nb lb).2.1.2 d17) := Sl.below Sr.out hb
        replace Su : Hid (Sl w21 A18 (dmS na la nb lb).1.2 c18) := Sl.below Su.out hb
        replace Sv : Hid (Sl w21 B18 (dmS na la nb lb).2.1.2 d18) := Sl.below Sv.out hb
        replace B : Hid (Below w.heap.size w w21) := below_mono B.out hb
        clear hb
        replace hza : w.heap.size < w21.heap.size := lt_of_cell (a := ⟨w.heap.size, 0, none⟩) Ka.out.1
        replace hzb : w.heap.size + 1 < w21.heap.size := lt_of_cell (a := ⟨w.heap.size + 1, 0, none⟩) Kb.out.1
        replace hzx : g5 < w21.heap.size := lt_of_cell (a := ⟨g5, 0, none⟩) Kx.out.1
        replace hzy : g6 < w21.heap.size := lt_of_cell (a := ⟨g6, 0, none⟩) Ky.out.1
        replace hzs : w11.heap.size < w21.heap.size := lt_of_cell (a := ⟨w11.heap.size, 0, none⟩) Ks.out.1
        replace hzt : w12.heap.size < w21.heap.size := lt_of_cell (a := ⟨w12.heap.size, 0, none⟩) Kt.out.1
        replace hzd : w13.heap.size < w21.heap.size := lt_of_cell (a := ⟨w13.heap.size, 0, none⟩) Kd.out.1
        replace hzc : w14.heap.size < w21.heap.size := lt_of_cell (a := ⟨w14.heap.size, 0, none⟩) Kc.out.1
        replace hzp : w15.heap.size < w21.heap.size := lt_of_cell (a := ⟨w15.heap.size, 0, none⟩) Kp.out.1
        replace hzo : w16.heap.size < w21.heap.size := lt_of_cell (a := ⟨w16.heap.size, 0, none⟩) Ko.out.1
        replace hzq : w17.heap.size < w21.heap.size := lt_of_cell (a := ⟨w17.heap.size, 0, none⟩) Kq.out.1
        replace hzr : w17.heap.size + 1 < w21.heap.size := lt_of_cell (a := ⟨w17.heap.size + 1, 0, none⟩) Kr.out.1
        replace hzu : w18.heap.size < w21.heap.size := lt_of_cell (a := ⟨w18.heap.size, 0, none⟩) Ku.out.1
        replace hzv : w18.heap.size + 1 < w21.heap.size := lt_of_cell (a := ⟨w18.heap.size + 1, 0, none⟩) Kv.out.1
        obtain ⟨qq0, qq1⟩ := Kq.out
        obtain ⟨qu0, qu1⟩ := Ku.out
        go_wp2_with fail
        refine (same_self _ _ _ _ _ _ _ Sq.out Su.out).mono ?_
        rintro e w22 ⟨rfl, hb⟩
        clear qq0 qq1 qu0 qu1
        replace Ka : Hid (Cw w22 w.heap.size na A1 la.length ca) := Cw.keep Ka.out hb
        replace Kb : Hid (Cw w22 (w.heap.size + 1) nb A2 lb.length cb) := Cw.keep Kb.out hb
        replace Kx : Hid (Cw w22 g5 na A5 la.length c5) := Cw.keep Kx.out hb
        replace Ky : Hid (Cw w22 g6 nb A6 lb.length c6) := Cw.keep Ky.out hb
        replace Ks : Hid (Cw w22 w11.heap.size (addS na la nb lb).1.1 A11 (addS na la nb lb).1.2.length c11) := Cw.keep Ks.out hb
        replace Kt : Hid (Cw w22 w12.heap.size (addS na la nb lb).1.1 A12 (addS na la nb lb).1.2.length c12) := Cw.keep Kt.out hb
        replace Kd : Hid (Cw w22 w13.heap.size (subS na la nb lb).1.1 A13 (subS na la nb lb).1.2.length c13) := Cw.keep Kd.out hb
        replace Kc : Hid (Cw w22 w14.heap.size (subS na la nb lb).1.1 A14 (subS na la nb lb).1.2.length c14) := Cw.keep Kc.out hb
        replace Kp : Hid (Cw w22 w15.heap.size (mulS na la nb lb).1.1 A15 (mulS na la nb lb).1.2.length c15) := Cw.keep Kp.out hb
        replace Ko : Hid (Cw w22 w16.heap.size (mulS na la nb lb).1.1 A16 (mulS na la nb lb).1.2.length c16) := Cw.keep Ko.out hb
        replace Kq : Hid (Cw w22 w17.heap.size (dmS na la nb lb).1.1 A17 (dmS na la nb lb).1.2.length c17) := Cw.keep Kq.out hb
        replace Kr : Hid (Cw w22 (w17.heap.size + 1) (dmS na la nb lb).2.1.1 B17 (dmS na la nb lb).2.1.2.length d17) := Cw.keep Kr.out hb
        replace Ku : Hid (Cw w22 w18.heap.size (dmS na la nb lb).1.1 A18 (dmS na la nb lb).1.2.length c18) := Cw.keep Ku.out hb
        replace Kv : Hid (Cw w22 (w18.heap.size + 1) (dmS na la nb lb).2.1.1 B18 (dmS na la nb lb).2.1.2.length d18) := Cw.keep Kv.out hb
        replace Sa : Hid (Sl w22 A1 la ca) := Sl.below Sa.out hb
        replace Sb : Hid (Sl w22 A2 lb cb) := Sl.below Sb.out hb
        replace Sx : Hid (Sl w22 A5 la c5) := Sl.below Sx.out hb
        replace Sy : Hid (Sl w22 A6 lb c6) := Sl.below Sy.out hb
        replace Ss : Hid (Sl w22 A11 (addS na la nb lb).1.2 c11) := Sl.below Ss.out hb
        replace St : Hid (Sl w22 A12 (addS na la nb lb).1.2 c12) := Sl.below St.out hb
        replace Sd : Hid (Sl w22 A13 (subS na la nb lb).1.2 c13) := Sl.below Sd.out hb
        replace Sc : Hid (Sl w22 A14 (subS na la nb lb).1.2 c14) := Sl.below Sc.out hb
        replace Sp : Hid (Sl w22 A15 (mulS na la nb lb).1.2 c15) := Sl.below Sp.out hb
        replace So : Hid (Sl w22 A16 (mulS na la nb lb).1.2 c16) := Sl.below So.out hb
        replace Sq : Hid (Sl w22 A17 (dmS na la nb lb).1.2 c17) := Sl.below Sq.out hb
        replace Sr : Hid (Sl w22 B17 (dmS na la nb lb).2.1.2 d17) := Sl.below Sr.out hb
        replace Su : Hid (Sl w22 A18 (dmS na la nb lb).1.2 c18) := Sl.below Su.out hb
        replace Sv : Hid (Sl w22 B18 (dmS na la nb lb).2.1.2 d18) := Sl.below Sv.out hb
        replace B : Hid (Below w.heap.size w w22) := below_mono B.out hb
        clear hb
        replace hza : w.heap.size < w22.heap.size := lt_of_cell (a := ⟨w.heap.size, 0, none⟩) Ka.out.1
        replace hzb : w.heap.size + 1 < w22.heap.size := lt_of_cell (a := ⟨w.heap.size + 1, 0, none⟩) Kb.out.1
        replace hzx : g5 < w22.heap.size := lt_of_cell (a := ⟨g5, 0, none⟩) Kx.out.1
        replace hzy : g6 < w22.heap.size := lt_of_cell (a := ⟨g6, 0, none⟩) Ky.out.1
        replace hzs : w11.heap.size < w22.heap.size := lt_of_cell (a := ⟨w11.heap.size, 0, none⟩) Ks.out.1
        replace hzt : w12.heap.size < w22.heap.size := lt_of_cell (a := ⟨w12.heap.size, 0, none⟩) Kt.out.1
        replace hzd : w13.heap.size < w22.heap.size := lt_of_cell (a := ⟨w13.heap.size, 0, none⟩) Kd.out.1
        replace hzc : w14.heap.size < w22.heap.size := lt_of_cell (a := ⟨w14.heap.size, 0, none⟩) Kc.out.1
        replace hzp : w15.heap.size < w22.heap.size := lt_of_cell (a := ⟨w15.heap.size, 0, none⟩) Kp.out.1
        replace hzo : w16.heap.size < w22.heap.size := lt_of_cell (a := ⟨w16.heap.size, 0, none⟩) Ko.out.1
        replace hzq : w17.heap.size < w22.heap.size := lt_of_cell (a := ⟨w17.heap.size, 0, none⟩) Kq.out.1
        replace hzr : w17.heap.size + 1 < w22.heap.size := lt_of_cell (a := ⟨w17.heap.size + 1, 0, none⟩) Kr.out.1
        replace hzu : w18.heap.size < w22.heap.size := lt_of_cell (a := ⟨w18.heap.size, 0, none⟩) Ku.out.1
        replace hzv : w18.heap.size + 1 < w22.heap.size := lt_of_cell (a := ⟨w18.heap.size + 1, 0, none⟩) Kv.out.1
        obtain ⟨qr0, qr1⟩ := Kr.out
        obtain ⟨qv0, qv1⟩ := Kv.out
        go_wp2_with fail
        refine (same_self _ _ _ _ _ _ _ Sr.out Sv.out).mono ?_
        rintro e w23 ⟨rfl, hb⟩
        clear qr0 qr1 qv0 qv1
        replace Ka : Hid (Cw w23 w.heap.size na A1 la.length ca) := Cw.keep Ka.out hb
        replace Kb : Hid (Cw w23 (w.heap.size + 1) nb A2 lb.length cb) := Cw.keep Kb.out hb
        replace Kx : Hid (Cw w23 g5 na A5 la.length c5) := Cw.keep Kx.out hb
        replace Ky : Hid (Cw w23 g6 nb A6 lb.length c6) := Cw.keep Ky.out hb
        replace Ks : Hid (Cw w23 w11.heap.size (addS na la nb lb).1.1 A11 (addS na la nb lb).1.2.length c11) := Cw.keep Ks.out hb
        replace Kt : Hid (Cw w23 w12.heap.size (addS na la nb lb).1.1 A12 (addS na la nb lb).1.2.length c12) := Cw.keep Kt.out hb
        replace Kd : Hid (Cw w23 w13.heap.size (subS na la nb lb).1.1 A13 (subS na la nb lb).1.2.length c13) := Cw.keep Kd.out hb
        replace Kc : Hid (Cw w23 w14.heap.size (subS na la nb lb).1.1 A14 (subS na la nb lb).1.2.length c14) := Cw.keep Kc.out hb
        replace Kp : Hid (Cw w23 w15.heap.size (mulS na la nb lb).1.1 A15 (mulS na la nb lb).1.2.length c15) := Cw.keep Kp.out hb
        replace Ko : Hid (Cw w23 w16.heap.size (mulS na la nb lb).1.1 A16 (mulS na la nb lb).1.2.length c16) := Cw.keep Ko.out hb
        replace Kq : Hid (Cw w23 w17.heap.size (dmS na la nb lb).1.1 A17 (dmS na la nb lb).1.2.length c17) := Cw.keep Kq.out hb
        replace Kr : Hid (Cw w23 (w17.heap.size + 1) (dmS na la nb lb).2.1.1 B17 (dmS na la nb lb).2.1.2.length d17) := Cw.keep Kr.out hb
        replace Ku : Hid (Cw w23 w18.heap.size (dmS na la nb lb).1.1 A18 (dmS na la nb lb).1.2.length c18) := Cw.keep Ku.out hb
        replace Kv : Hid (Cw w23 (w18.heap.size + 1) (dmS na la nb lb).2.1.1 B18 (dmS na la nb lb).2.1.2.length d18) := Cw.keep Kv.out hb
        replace Sa : Hid (Sl w23 A1 la ca) := Sl.below Sa.out hb
        replace Sb : Hid (Sl w23 A2 lb cb) := Sl.below Sb.out hb
        replace Sx : Hid (Sl w23 A5 la c5) := Sl.below Sx.out hb
        replace Sy : Hid (Sl w23 A6 lb c6) := Sl.below Sy.out hb
        replace Ss : Hid (Sl w23 A11 (addS na la nb lb).1.2 c11) := Sl.below Ss.out hb
        replace St : Hid (Sl w23 A12 (addS na la nb lb).1.2 c12) := Sl.below St.out hb
        replace Sd : Hid (Sl w23 A13 (subS na la nb lb).1.2 c13) := Sl.below Sd.out hb
        replace Sc : Hid (Sl w23 A14 (subS na la nb lb).1.2 c14) := Sl.below Sc.out hb
        replace Sp : Hid (Sl w23 A15 (mulS na la nb lb).1.2 c15) := Sl.below Sp.out hb
        replace So : Hid (Sl w23 A16 (mulS na la nb lb).1.2 c16) := Sl.below So.out hb
        replace Sq : Hid (Sl w23 A17 (dmS na la nb lb).1.2 c17) := Sl.below Sq.out hb
        replace Sr : Hid (Sl w23 B17 (dmS na la nb lb).2.1.2 d17) := Sl.below Sr.out hb
        replace Su : Hid (Sl w23 A18 (dmS na la nb lb).1.2 c18) := Sl.below Su.out hb
        replace Sv : Hid (Sl w23 B18 (dmS na la nb lb).2.1.2 d18) := Sl.below Sv.out hb
        replace B : Hid (Below w.heap.size w w23) := below_mono B.out hb
        clear hb
        replace hza : w.heap.size < w23.heap.size := lt_of_cell (a := ⟨w.heap.size, 0, none⟩) Ka.out.1
        replace hzb : w.heap.size + 1 < w23.heap.size := lt_of_cell (a := ⟨w.heap.size + 1, 0, none⟩) Kb.out.1
        replace hzx : g5 < w23.heap.size := lt_of_cell (a := ⟨g5, 0, none⟩) Kx.out.1
        replace hzy : g6 < w23.heap.size := lt_of_cell (a := ⟨g6, 0, none⟩) Ky.out.1
        replace hzs : w11.heap.size < w23.heap.size := lt_of_cell (a := ⟨w11.heap.size, 0, none⟩) Ks.out.1
        replace hzt : w12.heap.size < w23.heap.size := lt_of_cell (a := ⟨w12.heap.size, 0, none⟩) Kt.out.1
        replace hzd : w13.heap.size < w23.heap.size := lt_of_cell (a := ⟨w13.heap.size, 0, none⟩) Kd.out.1
        replace hzc : w14.heap.size < w23.heap.size := lt_of_cell (a := ⟨w14.heap.size, 0, none⟩) Kc.out.1
        replace hzp : w15.heap.size < w23.heap.size := lt_of_cell (a := ⟨w15.heap.size, 0, none⟩) Kp.out.1
        replace hzo : w16.heap.size < w23.heap.size := lt_of_cell (a := ⟨w16.heap.size, 0, none⟩) Ko.out.1
        replace hzq : w17.heap.size < w23.heap.size := lt_of_cell (a := ⟨w17.heap.size, 0, none⟩) Kq.out.1
        replace hzr : w17.heap.size + 1 < w23.heap.size := lt_of_cell (a := ⟨w17.heap.size + 1, 0, none⟩) Kr.out.1
        replace hzu : w18.heap.size < w23.heap.size := lt_of_cell (a := ⟨w18.heap.size, 0, none⟩) Ku.out.1
        replace hzv : w18.heap.size + 1 < w23.heap.size := lt_of_cell (a := ⟨w18.heap.size + 1, 0, none⟩) Kv.out.1
        obtain ⟨qa0, qa1⟩ := Ka.out
        obtain ⟨qx0, qx1⟩ := Kx.out
        go_wp2_with fail
        refine (same_self _ _ _ _ _ _ _ Sa.out Sx.out).mono ?_
        rintro e w24 ⟨rfl, hb⟩
        clear qa0 qa1 qx0 qx1
        replace Ka : Hid (Cw w24 w.heap.size na A1 la.length ca) := Cw.keep Ka.out hb
        replace Kb : Hid (Cw w24 (w.heap.size + 1) nb A2 lb.length cb) := Cw.keep Kb.out hb
        replace Kx : Hid (Cw w24 g5 na A5 la.length c5) := Cw.keep Kx.out hb
        replace Ky : Hid (Cw w24 g6 nb A6 lb.length c6) := Cw.keep Ky.out hb
        replace Ks : Hid (Cw w24 w11.heap.size (addS na la nb lb).1.1 A11 (addS na la nb lb).1.2.length c11) := Cw.keep Ks.out hb
        replace Kt : Hid (Cw w24 w12.heap.size (addS na la nb lb).1.1 A12 (addS na la nb lb).1.2.length c12) := Cw.keep Kt.out hb
        replace Kd : Hid (Cw w24 w13.heap.size (subS na la nb lb).1.1 A13 (subS na la nb lb).1.2.length c13) := Cw.keep Kd.out hb
        replace Kc : Hid (Cw w24 w14.heap.size (subS na la nb lb).1.1 A14 (subS na la nb lb).1.2.length c14) := Cw.keep Kc.out hb
        replace Kp : Hid (Cw w24 w15.heap.size (mulS na la nb lb).1.1 A15 (mulS na la nb lb).1.2.length c15) := Cw.keep Kp.out hb
        replace Ko : Hid (Cw w24 w16.heap.size (mulS na la nb lb).1.1 A16 (mulS na la nb lb).1.2.length c16) := Cw.keep Ko.out hb
        replace Kq : Hid (Cw w24 w17.heap.size (dmS na la nb lb).1.1 A17 (dmS na la nb lb).1.2.length c17) := Cw.keep Kq.out hb
        replace Kr : Hid (Cw w24 (w17.heap.size + 1) (dmS na la nb lb).2.1.1 B17 (dmS na la nb lb).2.1.2.length d17) := Cw.keep Kr.out hb
        replace Ku : Hid (Cw w24 w18.heap.size (dmS na la nb lb).1.1 A18 (dmS na la nb lb).1.2.length c18) := Cw.keep Ku.out hb
        replace Kv : Hid (Cw w24 (w18.heap.size + 1) (dmS na la nb lb).2.1.1 B18 (dmS na la nb lb).2.1.2.length d18) := Cw.keep Kv.out hb
        replace Sa : Hid (Sl w24 A1 la ca) := Sl.below Sa.out hb
        replace Sb : Hid (Sl w24 A2 lb cb) := Sl.below Sb.out hb
        replace Sx : Hid (Sl w24 A5 la c5) := Sl.below Sx.out hb
        replace Sy : Hid (Sl w24 A6 lb c6) := Sl.below Sy.out hb
        replace Ss : Hid (Sl w24 A11 (addS na la nb lb).1.2 c11) := Sl.below Ss.out hb
        replace St : Hid (Sl w24 A12 (addS na la nb lb).1.2 c12) := Sl.below St.out hb
        replace Sd : Hid (Sl w24 A13 (subS na la nb lb).1.2 c13) := Sl.below Sd.out hb
        replace Sc : Hid (Sl w24 A14 (subS na la nb lb).1.2 c14) := Sl.below Sc.out hb
        replace Sp : Hid (Sl w24 A15 (mulS na la nb lb).1.2 c15) := Sl.below Sp.out hb
        replace So : Hid (Sl w24 A16 (mulS na la nb lb).1.2 c16) := Sl.below So.out hb
        replace Sq : Hid (Sl w24 A17 (dmS na la nb lb).1.2 c17) := Sl.below Sq.out hb
        replace Sr : Hid (Sl w24 B17 (dmS na la nb lb).2.1.2 d17) := Sl.below Sr.out hb
        replace Su : Hid (Sl w24 A18 (dmS na la nb lb).1.2 c18) := Sl.below Su.out hb
        replace Sv : Hid (Sl w24 B18 (dmS na la nb lb).2.1.2 d18) := Sl.below Sv.out hb
        replace B : Hid (Below w.heap.size w w24) := below_mono B.out hb
        clear hb
        replace hza : w.heap.size < w24.heap.size := lt_of_cell (a := ⟨w.heap.size, 0, none⟩) Ka.out.1
        replace hzb : w.heap.size + 1 < w24.heap.size := lt_of_cell (a := ⟨w.heap.size + 1, 0, none⟩) Kb.out.1
        replace hzx : g5 < w24.heap.size := lt_of_cell (a := ⟨g5, 0, none⟩) Kx.out.1
        replace hzy : g6 < w24.heap.size := lt_of_cell (a := ⟨g6, 0, none⟩) Ky.out.1
        replace hzs : w11.heap.size < w24.heap.size := lt_of_cell (a := ⟨w11.heap.size, 0, none⟩) Ks.out.1
        replace hzt : w12.heap.size < w24.heap.size := lt_of_cell (a := ⟨w12.heap.size, 0, none⟩) Kt.out.1
        replace hzd : w13.heap.size < w24.heap.size := lt_of_cell (a := ⟨w13.heap.size, 0, none⟩) Kd.out.1
        replace hzc : w14.heap.size < w24.heap.size := lt_of_cell (a := ⟨w14.heap.size, 0, none⟩) Kc.out.1
        replace hzp : w15.heap.size < w24.heap.size := lt_of_cell (a := ⟨w15.heap.size, 0, none⟩) Kp.out.1
        replace hzo : w16.heap.size < w24.heap.size := lt_of_cell (a := ⟨w16.heap.size, 0, none⟩) Ko.out.1
        replace hzq : w17.heap.size < w24.heap.size := lt_of_cell (a := ⟨w17.heap.size, 0, none⟩) Kq.out.1
        replace hzr : w17.heap.size + 1 < w24.heap.size := lt_of_cell (a := ⟨w17.heap.size + 1, 0, none⟩) Kr.out.1
        replace hzu : w18.heap.size < w24.heap.size := lt_of_cell (a := ⟨w18.heap.size, 0, none⟩) Ku.out.1
        replace hzv : w18.heap.size + 1 < w24.heap.size := lt_of_cell (a := ⟨w18.heap.size + 1, 0, none⟩) Kv.out.1
        obtain ⟨qb0, qb1⟩ := Kb.out
        obtain ⟨qy0, qy1⟩ := Ky.out
        go_wp2_with fail
        refine (same_self _ _ _ _ _ _ _ Sb.out Sy.out).mono ?_
        rintro e w25 ⟨rfl, hb⟩
        clear qb0 qb1 qy0 qy1
        replace Ka : Hid (Cw w25 w.heap.size na A1 la.length ca) := Cw.keep Ka.out hb
        replace Kb : Hid (Cw w25 (w.heap.size + 1) nb A2 lb.length cb) := Cw.keep Kb.out hb
        replace Kx : Hid (Cw w25 g5 na A5 la.length c5) := Cw.keep Kx.out hb
        replace Ky : Hid (Cw w25 g6 nb A6 lb.length c6) := Cw.keep Ky.out hb
        replace Ks : Hid (Cw w25 w11.heap.size (addS na la nb lb).1.1 A11 (addS na la nb lb).1.2.length c11) := Cw.keep Ks.out hb
        replace Kt : Hid (Cw w25 w12.heap.size (addS na la nb lb).1.1 A12 (addS na la nb lb).1.2.length c12) := Cw.keep Kt.out hb
        replace Kd : Hid (Cw w25 w13.heap.size (subS na la nb lb).1.1 A13 (subS na la nb lb).1.2.length c13) := Cw.keep Kd.out hb
        replace Kc : Hid (Cw w25 w14.heap.size (subS na la nb lb).1.1 A14 (subS na la nb lb).1.2.length c14) := Cw.keep Kc.out hb
        replace Kp : Hid (Cw w25 w15.heap.size (mulS na la nb lb).1.1 A15 (mulS na la nb lb).1.2.length c15) := Cw.keep Kp.out hb
        replace Ko : Hid (Cw w25 w16.heap.size (mulS na la nb lb).1.1 A16 (mulS na la nb lb).1.2.length c16) := Cw.keep Ko.out hb
        replace Kq : Hid (Cw w25 w17.heap.size (dmS na la nb lb).1.1 A17 (dmS na la nb lb).1.2.length c17) := Cw.keep Kq.out hb
        replace Kr : Hid (Cw w25 (w17.heap.size + 1) (dmS na la nb lb).2.1.1 B17 (dmS na la nb lb).2.1.2.length d17) := Cw.keep Kr.out hb
        replace Ku : Hid (Cw w25 w18.heap.size (dmS na la nb lb).1.1 A18 (dmS na la nb lb).1.2.length c18) := Cw.keep Ku.out hb
        replace Kv : Hid (Cw w25 (w18.heap.size + 1) (dmS na la nb lb).2.1.1 B18 (dmS na la nb lb).2.1.2.length d18) := Cw.keep Kv.out hb
        replace Sa : Hid (Sl w25 A1 la ca) := Sl.below Sa.out hb
        replace Sb : Hid (Sl w25 A2 lb cb) := Sl.below Sb.out hb
        replace Sx : Hid (Sl w25 A5 la c5) := Sl.below Sx.out hb
        replace Sy : Hid (Sl w25 A6 lb c6) := Sl.below Sy.out hb
        replace Ss : Hid (Sl w25 A11 (addS na la nb lb).1.2 c11) := Sl.below Ss.out hb
        replace St : Hid (Sl w25 A12 (addS na la nb lb).1.2 c12) := Sl.below St.out hb
        replace Sd : Hid (Sl w25 A13 (subS na la nb lb).1.2 c13) := Sl.below Sd.out hb
        replace Sc : Hid (Sl w25 A14 (subS na la nb lb).1.2 c14) := Sl.below Sc.out hb
        replace Sp : Hid (Sl w25 A15 (mulS na la nb lb).1.2 c15) := Sl.below Sp.out hb
        replace So : Hid (Sl w25 A16 (mulS na la nb lb).1.2 c16) := Sl.below So.out hb
        replace Sq : Hid (Sl w25 A17 (dmS na la nb lb).1.2 c17) := Sl.below Sq.out hb
        replace Sr : Hid (Sl w25 B17 (dmS na la nb lb).2.1.2 d17) := Sl.below Sr.out hb
        replace Su : Hid (Sl w25 A18 (dmS na la nb lb).1.2 c18) := Sl.below Su.out hb
        replace Sv : Hid (Sl w25 B18 (dmS na la nb lb).2.1.2 d18) := Sl.below Sv.out hb
        replace B : Hid (Below w.heap.size w w25) := below_mono B.out hb
        clear hb
        replace hza : w.heap.size < w25.heap.size := lt_of_cell (a := ⟨w.heap.size, 0, none⟩) Ka.out.1
        replace hzb : w.heap.size + 1 < w25.heap.size := lt_of_cell (a := ⟨w.heap.size + 1, 0, none⟩) Kb.out.1
        replace hzx : g5 < w25.heap.size := lt_of_cell (a := ⟨g5, 0, none⟩) Kx.out.1
        replace hzy : g6 < w25.heap.size := lt_of_cell (a := ⟨g6, 0, none⟩) Ky.out.1
        replace hzs : w11.heap.size < w25.heap.size := lt_of_cell (a := ⟨w11.heap.size, 0, none⟩) Ks.out.1
        replace hzt : w12.heap.size < w25.heap.size := lt_of_cell (a := ⟨w12.heap.size, 0, none⟩) Kt.out.1
        replace hzd : w13.heap.size < w25.heap.size := lt_of_cell (a := ⟨w13.heap.size, 0, none⟩) Kd.out.1
        replace hzc : w14.heap.size < w25.heap.size := lt_of_cell (a := ⟨w14.heap.size, 0, none⟩) Kc.out.1
        replace hzp : w15.heap.size < w25.heap.size := lt_of_cell (a := ⟨w15.heap.size, 0, none⟩) Kp.out.1
        replace hzo : w16.heap.size < w25.heap.size := lt_of_cell (a := ⟨w16.heap.size, 0, none⟩) Ko.out.1
        replace hzq : w17.heap.size < w25.heap.size := lt_of_cell (a := ⟨w17.heap.size, 0, none⟩) Kq.out.1
        replace hzr : w17.heap.size + 1 < w25.heap.size := lt_of_cell (a := ⟨w17.heap.size + 1, 0, none⟩) Kr.out.1
        replace hzu : w18.heap.size < w25.heap.size := lt_of_cell (a := ⟨w18.heap.size, 0, none⟩) Ku.out.1
        replace hzv : w18.heap.size + 1 < w25.heap.size := lt_of_cell (a := ⟨w18.heap.size + 1, 0, none⟩) Kv.out.1
        go_wp2
        go_ret
        exact ⟨rfl, B.out⟩
    · go_enter Try.func4, Try.ntmps4
      go_wp2_with fail
      refine (great_any na A1 la ca _).mono ?_
      rintro e w1 ⟨rfl, hb⟩
      obtain ⟨qb0, qb1⟩ : Cw w1 (w.heap.size + 1) nb A2 lb.length cb := Cw.keep (Cw.fresh (by simp) _ _ _ _ _) hb
      go_wp2_with fail
      refine (great_any nb A2 lb cb _).mono ?_
      rintro e w2 ⟨rfl, hb2⟩
      go_wp2
      go_ret
      exact ⟨rfl, below_mono (below_mono (blw2 _ _ _) hb) hb2⟩
  · go_enter Try.func4, Try.ntmps4
    go_wp2_with fail
    refine (great_any na A1 la ca _).mono ?_
    rintro e w1 ⟨rfl, hb⟩
    go_wp2
    go_ret
    exact ⟨rfl, below_mono (blw2 _ _ _) hb⟩
end Go.Proofs.Ytejapkdhbpngbaa

/- The walk of the law WideAsks. -/
import Derived.Test.YtejapkdhbpngbaaW4
import Derived.Test.YtejapkdhbpngbaaW5
import Derived.Test.YtejapkdhbpngbaaW7
import Derived.Test.YtejapkdhbpngbaaW8
import Derived.Test.YtejapkdhbpngbaaW9
import Derived.Test.YtejapkdhbpngbaaTwin
namespace Go.Proofs.Ytejapkdhbpngbaa
open Go.RowKit
attribute [local go_sem ↓] Go.wp_at_zero Go.wp_at_succ

theorem sameB_self (n : Bool) (l : List Nat) : sameB n l n l = true := by simp [sameB]

set_option maxRecDepth 100000 in
set_option maxHeartbeats 4000000 in
theorem wideAsks_walk (na nb : Bool) (A1 A2 : Option Addr) (la lb : List Nat) (ca cb : Nat) (n : Int) (h1 : -9223372036854775808 ≤ n) (h2 : n ≤ 9223372036854775807) (w : World) (hsa : Sl w A1 la ca) (hsb : Sl w A2 lb cb) :
    Calls Try.prog 3 #[.agg #[.bool na, .slice A1 la.length ca], .agg #[.bool nb, .slice A2 lb.length cb], .int .i64 n] w fun e w' => e = .returned (.bool true) ∧ Below w.heap.size w w' := by
  have Sa := Lib.hid hsa
  have Sb := Lib.hid hsb
  clear hsa hsb
  have B : Hid (Below w.heap.size w w) := Below.refl _ _
  cases hga : greatB la
  · cases hgb : greatB lb
    · go_enter Try.func3, Try.ntmps3
      go_wp2_with fail
      refine (great_any na A1 la ca _).mono ?_
      rintro e w1 ⟨rfl, hb⟩
      have Ka : Hid (Cw w1 w.heap.size na A1 la.length ca) := Cw.keep (Cw.keep (Cw.fresh (by simp) _ _ _ _ _) (blw1 _ _)) hb
      have Kb : Hid (Cw w1 (w.heap.size + 1) nb A2 lb.length cb) := Cw.keep (Cw.fresh (by simp) _ _ _ _ _) hb
      replace Sa : Hid (Sl w1 A1 la ca) := Sl.below ((Sa.out.alloc _).alloc _) hb
      replace Sb : Hid (Sl w1 A2 lb cb) := Sl.below ((Sb.out.alloc _).alloc _) hb
      replace B : Hid (Below w.heap.size w w1) := below_mono (below_mono (below_mono B.out (blw1 _ _)) (blw1 _ _)) hb
      clear hb
      obtain ⟨qa0, qa1⟩ := Ka.out
      obtain ⟨qb0, qb1⟩ := Kb.out
      have hza : w.heap.size < w1.heap.size := lt_of_cell (a := ⟨w.heap.size, 0, none⟩) Ka.out.1
      have hzb : w.heap.size + 1 < w1.heap.size := lt_of_cell (a := ⟨w.heap.size + 1, 0, none⟩) Kb.out.1
      go_wp2_with fail
      refine (great_any nb A2 lb cb _).mono ?_
      rintro e w2 ⟨rfl, hb⟩
      clear qa0 qa1 qb0 qb1
      replace Ka : Hid (Cw w2 w.heap.size na A1 la.length ca) := Cw.keep Ka.out hb
      replace Kb : Hid (Cw w2 (w.heap.size + 1) nb A2 lb.length cb) := Cw.keep Kb.out hb
      replace Sa : Hid (Sl w2 A1 la ca) := Sl.below Sa.out hb
      replace Sb : Hid (Sl w2 A2 lb cb) := Sl.below Sb.out hb
      replace B : Hid (Below w.heap.size w w2) := below_mono B.out hb
      clear hb
      obtain ⟨qa0, qa1⟩ := Ka.out
      obtain ⟨qb0, qb1⟩ := Kb.out
      replace hza : w.heap.size < w2.heap.size := lt_of_cell (a := ⟨w.heap.size, 0, none⟩) Ka.out.1
      replace hzb : w.heap.size + 1 < w2.heap.size := lt_of_cell (a := ⟨w.heap.size + 1, 0, none⟩) Kb.out.1
      go_wp2_with fail
      refine (int_any _ _ _ _ _ Sa.out).mono ?_
      rintro e w3 ⟨rfl, hb⟩
      clear qa0 qa1 qb0 qb1
      replace Ka : Hid (Cw w3 w.heap.size na A1 la.length ca) := Cw.keep Ka.out hb
      replace Kb : Hid (Cw w3 (w.heap.size + 1) nb A2 lb.length cb) := Cw.keep Kb.out hb
      replace Sa : Hid (Sl w3 A1 la ca) := Sl.below Sa.out hb
      replace Sb : Hid (Sl w3 A2 lb cb) := Sl.below Sb.out hb
      replace B : Hid (Below w.heap.size w w3) := below_mono B.out hb
      clear hb
      obtain ⟨qa0, qa1⟩ := Ka.out
      obtain ⟨qb0, qb1⟩ := Kb.out
      replace hza : w.heap.size < w3.heap.size := lt_of_cell (a := ⟨w.heap.size, 0, none⟩) Ka.out.1
      replace hzb : w.heap.size + 1 < w3.heap.size := lt_of_cell (a := ⟨w.heap.size + 1, 0, none⟩) Kb.out.1
      go_wp2_with fail
      refine (rint_any _ _ _ _ _ Sa.out).mono ?_
      rintro e w4 ⟨rfl, hb⟩
      clear qa0 qa1 qb0 qb1
      replace Ka : Hid (Cw w4 w.heap.size na A1 la.length ca) := Cw.keep Ka.out hb
      replace Kb : Hid (Cw w4 (w.heap.size + 1) nb A2 lb.length cb) := Cw.keep Kb.out hb
      replace Sa : Hid (Sl w4 A1 la ca) := Sl.below Sa.out hb
      replace Sb : Hid (Sl w4 A2 lb cb) := Sl.below Sb.out hb
      replace B : Hid (Below w.heap.size w w4) := below_mono B.out hb
      clear hb
      obtain ⟨qa0, qa1⟩ := Ka.out
      obtain ⟨qb0, qb1⟩ := Kb.out
      replace hza : w.heap.size < w4.heap.size := lt_of_cell (a := ⟨w.heap.size, 0, none⟩) Ka.out.1
      replace hzb : w.heap.size + 1 < w4.heap.size := lt_of_cell (a := ⟨w.heap.size + 1, 0, none⟩) Kb.out.1
      go_wp2_with fail
      refine (neg_any _ _ _ _ _ Sa.out).mono ?_
      rintro e w5 ⟨A5, c5, rfl, hs5, hb⟩
      clear qa0 qa1 qb0 qb1
      replace Ka : Hid (Cw w5 w.heap.size na A1 la.length ca) := Cw.keep Ka.out hb
      replace Kb : Hid (Cw w5 (w.heap.size + 1) nb A2 lb.length cb) := Cw.keep Kb.out hb
      replace Sa : Hid (Sl w5 A1 la ca) := Sl.below Sa.out hb
      replace Sb : Hid (Sl w5 A2 lb cb) := Sl.below Sb.out hb
      replace B : Hid (Below w.heap.size w w5) := below_mono B.out hb
      clear hb
      have Sx : Hid (Sl w5 A5 (negS na la).1.2 c5) := hs5
      clear hs5
      obtain ⟨qa0, qa1⟩ := Ka.out
      obtain ⟨qb0, qb1⟩ := Kb.out
      replace hza : w.heap.size < w5.heap.size := lt_of_cell (a := ⟨w.heap.size, 0, none⟩) Ka.out.1
      replace hzb : w.heap.size + 1 < w5.heap.size := lt_of_cell (a := ⟨w.heap.size + 1, 0, none⟩) Kb.out.1
      go_wp2_with fail
      refine (rneg_any _ _ _ _ _ (Sa.out.alloc _)).mono ?_
      rintro e w6 ⟨A6, c6, rfl, hs6, hb⟩
      clear qa0 qa1 qb0 qb1
      replace Ka : Hid (Cw w6 w.heap.size na A1 la.length ca) := Cw.keep (Cw.keep Ka.out (blw1 _ _)) hb
      replace Kb : Hid (Cw w6 (w.heap.size + 1) nb A2 lb.length cb) := Cw.keep (Cw.keep Kb.out (blw1 _ _)) hb
      have Kx : Hid (Cw w6 w5.heap.size (negS na la).1.1 A5 (negS na la).1.2.length c5) := Cw.keep (Cw.fresh (by simp) _ _ _ _ _) hb
      replace Sa : Hid (Sl w6 A1 la ca) := Sl.below (Sa.out.alloc _) hb
      replace Sb : Hid (Sl w6 A2 lb cb) := Sl.below (Sb.out.alloc _) hb
      replace Sx : Hid (Sl w6 A5 (negS na la).1.2 c5) := Sl.below (Sx.out.alloc _) hb
      replace B : Hid (Below w.heap.size w w6) := below_mono (below_mono B.out (blw1 _ _)) hb
      clear hb
      have Sy : Hid (Sl w6 A6 (negS na la).1.2 c6) := hs6
      clear hs6
      obtain ⟨qa0, qa1⟩ := Ka.out
      obtain ⟨qb0, qb1⟩ := Kb.out
      replace hza : w.heap.size < w6.heap.size := lt_of_cell (a := ⟨w.heap.size, 0, none⟩) Ka.out.1
      replace hzb : w.heap.size + 1 < w6.heap.size := lt_of_cell (a := ⟨w.heap.size + 1, 0, none⟩) Kb.out.1
      go_wp2_with fail
      refine (abs_any _ _ _ _ _ (Sa.out.alloc _)).mono ?_
      rintro e w7 ⟨A7, c7, rfl, hs7, hb⟩
      clear qa0 qa1 qb0 qb1
      replace Ka : Hid (Cw w7 w.heap.size na A1 la.length ca) := Cw.keep (Cw.keep Ka.out (blw1 _ _)) hb
      replace Kb : Hid (Cw w7 (w.heap.size + 1) nb A2 lb.length cb) := Cw.keep (Cw.keep Kb.out (blw1 _ _)) hb
      replace Kx : Hid (Cw w7 w5.heap.size (negS na la).1.1 A5 (negS na la).1.2.length c5) := Cw.keep (Cw.keep Kx.out (blw1 _ _)) hb
      have Ky : Hid (Cw w7 w6.heap.size (negS na la).1.1 A6 (negS na la).1.2.length c6) := Cw.keep (Cw.fresh (by simp) _ _ _ _ _) hb
      replace Sa : Hid (Sl w7 A1 la ca) := Sl.below (Sa.out.alloc _) hb
      replace Sb : Hid (Sl w7 A2 lb cb) := Sl.below (Sb.out.alloc _) hb
      replace Sx : Hid (Sl w7 A5 (negS na la).1.2 c5) := Sl.below (Sx.out.alloc _) hb
      replace Sy : Hid (Sl w7 A6 (negS na la).1.2 c6) := Sl.below (Sy.out.alloc _) hb
      replace B : Hid (Below w.heap.size w w7) := below_mono (below_mono B.out (blw1 _ _)) hb
      clear hb
      have Sp : Hid (Sl w7 A7 (absS na la).1.2 c7) := hs7
      clear hs7
      obtain ⟨qa0, qa1⟩ := Ka.out
      obtain ⟨qb0, qb1⟩ := Kb.out
      replace hza : w.heap.size < w7.heap.size := lt_of_cell (a := ⟨w.heap.size, 0, none⟩) Ka.out.1
      replace hzb : w.heap.size + 1 < w7.heap.size := lt_of_cell (a := ⟨w.heap.size + 1, 0, none⟩) Kb.out.1
      go_wp2_with fail
      refine (rabs_any _ _ _ _ _ (Sa.out.alloc _)).mono ?_
      rintro e w8 ⟨A8, c8, rfl, hs8, hb⟩
      clear qa0 qa1 qb0 qb1
      replace Ka : Hid (Cw w8 w.heap.size na A1 la.length ca) := Cw.keep (Cw.keep Ka.out (blw1 _ _)) hb
      replace Kb : Hid (Cw w8 (w.heap.size + 1) nb A2 lb.length cb) := Cw.keep (Cw.keep Kb.out (blw1 _ _)) hb
      replace Kx : Hid (Cw w8 w5.heap.size (negS na la).1.1 A5 (negS na la).1.2.length c5) := Cw.keep (Cw.keep Kx.out (blw1 _ _)) hb
      replace Ky : Hid (Cw w8 w6.heap.size (negS na la).1.1 A6 (negS na la).1.2.length c6) := Cw.keep (Cw.keep Ky.out (blw1 _ _)) hb
      have Kp : Hid (Cw w8 w7.heap.size (absS na la).1.1 A7 (absS na la).1.2.length c7) := Cw.keep (Cw.fresh (by simp) _ _ _ _ _) hb
      replace Sa : Hid (Sl w8 A1 la ca) := Sl.below (Sa.out.alloc _) hb
      replace Sb : Hid (Sl w8 A2 lb cb) := Sl.below (Sb.out.alloc _) hb
      replace Sx : Hid (Sl w8 A5 (negS na la).1.2 c5) := Sl.below (Sx.out.alloc _) hb
      replace Sy : Hid (Sl w8 A6 (negS na la).1.2 c6) := Sl.below (Sy.out.alloc _) hb
      replace Sp : Hid (Sl w8 A7 (absS na la).1.2 c7) := Sl.below (Sp.out.alloc _) hb
      replace B : Hid (Below w.heap.size w w8) := below_mono (below_mono B.out (blw1 _ _)) hb
      clear hb
      have Sq : Hid (Sl w8 A8 (absS na la).1.2 c8) := hs8
      clear hs8
      obtain ⟨qa0, qa1⟩ := Ka.out
      obtain ⟨qb0, qb1⟩ := Kb.out
      replace hza : w.heap.size < w8.heap.size := lt_of_cell (a := ⟨w.heap.size, 0, none⟩) Ka.out.1
      replace hzb : w.heap.size + 1 < w8.heap.size := lt_of_cell (a := ⟨w.heap.size + 1, 0, none⟩) Kb.out.1
      go_wp2_with fail
      refine (cmp_any _ _ _ _ _ _ _ _ _ (Sa.out.alloc _) (Sb.out.alloc _)).mono ?_
      rintro e w9 ⟨rfl, hb⟩
      clear qa0 qa1 qb0 qb1
      replace Ka : Hid (Cw w9 w.heap.size na A1 la.length ca) := Cw.keep (Cw.keep Ka.out (blw1 _ _)) hb
      replace Kb : Hid (Cw w9 (w.heap.size + 1) nb A2 lb.length cb) := Cw.keep (Cw.keep Kb.out (blw1 _ _)) hb
      replace Kx : Hid (Cw w9 w5.heap.size (negS na la).1.1 A5 (negS na la).1.2.length c5) := Cw.keep (Cw.keep Kx.out (blw1 _ _)) hb
      replace Ky : Hid (Cw w9 w6.heap.size (negS na la).1.1 A6 (negS na la).1.2.length c6) := Cw.keep (Cw.keep Ky.out (blw1 _ _)) hb
      replace Kp : Hid (Cw w9 w7.heap.size (absS na la).1.1 A7 (absS na la).1.2.length c7) := Cw.keep (Cw.keep Kp.out (blw1 _ _)) hb
      have Kq : Hid (Cw w9 w8.heap.size (absS na la).1.1 A8 (absS na la).1.2.length c8) := Cw.keep (Cw.fresh (by simp) _ _ _ _ _) hb
      replace Sa : Hid (Sl w9 A1 la ca) := Sl.below (Sa.out.alloc _) hb
      replace Sb : Hid (Sl w9 A2 lb cb) := Sl.below (Sb.out.alloc _) hb
      replace Sx : Hid (Sl w9 A5 (negS na la).1.2 c5) := Sl.below (Sx.out.alloc _) hb
      replace Sy : Hid (Sl w9 A6 (negS na la).1.2 c6) := Sl.below (Sy.out.alloc _) hb
      replace Sp : Hid (Sl w9 A7 (absS na la).1.2 c7) := Sl.below (Sp.out.alloc _) hb
      replace Sq : Hid (Sl w9 A8 (absS na la).1.2 c8) := Sl.below (Sq.out.alloc _) hb
      replace B : Hid (Below w.heap.size w w9) := below_mono (below_mono B.out (blw1 _ _)) hb
      clear hb
      obtain ⟨qa0, qa1⟩ := Ka.out
      obtain ⟨qb0, qb1⟩ := Kb.out
      replace hza : w.heap.size < w9.heap.size := lt_of_cell (a := ⟨w.heap.size, 0, none⟩) Ka.out.1
      replace hzb : w.heap.size + 1 < w9.heap.size := lt_of_cell (a := ⟨w.heap.size + 1, 0, none⟩) Kb.out.1
      go_wp2_with fail
      refine (rcmp_any _ _ _ _ _ _ _ _ _ Sa.out Sb.out).mono ?_
      rintro e w10 ⟨rfl, hb⟩
      clear qa0 qa1 qb0 qb1
      replace Ka : Hid (Cw w10 w.heap.size na A1 la.length ca) := Cw.keep Ka.out hb
      replace Kb : Hid (Cw w10 (w.heap.size + 1) nb A2 lb.length cb) := Cw.keep Kb.out hb
      replace Kx : Hid (Cw w10 w5.heap.size (negS na la).1.1 A5 (negS na la).1.2.length c5) := Cw.keep Kx.out hb
      replace Ky : Hid (Cw w10 w6.heap.size (negS na la).1.1 A6 (negS na la).1.2.length c6) := Cw.keep Ky.out hb
      replace Kp : Hid (Cw w10 w7.heap.size (absS na la).1.1 A7 (absS na la).1.2.length c7) := Cw.keep Kp.out hb
      replace Kq : Hid (Cw w10 w8.heap.size (absS na la).1.1 A8 (absS na la).1.2.length c8) := Cw.keep Kq.out hb
      replace Sa : Hid (Sl w10 A1 la ca) := Sl.below Sa.out hb
      replace Sb : Hid (Sl w10 A2 lb cb) := Sl.below Sb.out hb
      replace Sx : Hid (Sl w10 A5 (negS na la).1.2 c5) := Sl.below Sx.out hb
      replace Sy : Hid (Sl w10 A6 (negS na la).1.2 c6) := Sl.below Sy.out hb
      replace Sp : Hid (Sl w10 A7 (absS na la).1.2 c7) := Sl.below Sp.out hb
      replace Sq : Hid (Sl w10 A8 (absS na la).1.2 c8) := Sl.below Sq.out hb
      replace B : Hid (Below w.heap.size w w10) := below_mono B.out hb
      clear hb
      obtain ⟨qa0, qa1⟩ := Ka.out
      obtain ⟨qb0, qb1⟩ := Kb.out
      replace hza : w.heap.size < w10.heap.size := lt_of_cell (a := ⟨w.heap.size, 0, none⟩) Ka.out.1
      replace hzb : w.heap.size + 1 < w10.heap.size := lt_of_cell (a := ⟨w.heap.size + 1, 0, none⟩) Kb.out.1
      go_wp2_with fail
      refine (sign_any _ _ _ _ _ Sa.out).mono ?_
      rintro e w11 ⟨rfl, hb⟩
      clear qa0 qa1 qb0 qb1
      replace Ka : Hid (Cw w11 w.heap.size na A1 la.length ca) := Cw.keep Ka.out hb
      replace Kb : Hid (Cw w11 (w.heap.size + 1) nb A2 lb.length cb) := Cw.keep Kb.out hb
      replace Kx : Hid (Cw w11 w5.heap.size (negS na la).1.1 A5 (negS na la).1.2.length c5) := Cw.keep Kx.out hb
      replace Ky : Hid (Cw w11 w6.heap.size (negS na la).1.1 A6 (negS na la).1.2.length c6) := Cw.keep Ky.out hb
      replace Kp : Hid (Cw w11 w7.heap.size (absS na la).1.1 A7 (absS na la).1.2.length c7) := Cw.keep Kp.out hb
      replace Kq : Hid (Cw w11 w8.heap.size (absS na la).1.1 A8 (absS na la).1.2.length c8) := Cw.keep Kq.out hb
      replace Sa : Hid (Sl w11 A1 la ca) := Sl.below Sa.out hb
      replace Sb : Hid (Sl w11 A2 lb cb) := Sl.below Sb.out hb
      replace Sx : Hid (Sl w11 A5 (negS na la).1.2 c5) := Sl.below Sx.out hb
      replace Sy : Hid (Sl w11 A6 (negS na la).1.2 c6) := Sl.below Sy.out hb
      replace Sp : Hid (Sl w11 A7 (absS na la).1.2 c7) := Sl.below Sp.out hb
      replace Sq : Hid (Sl w11 A8 (absS na la).1.2 c8) := Sl.below Sq.out hb
      replace B : Hid (Below w.heap.size w w11) := below_mono B.out hb
      clear hb
      obtain ⟨qa0, qa1⟩ := Ka.out
      obtain ⟨qb0, qb1⟩ := Kb.out
      replace hza : w.heap.size < w11.heap.size := lt_of_cell (a := ⟨w.heap.size, 0, none⟩) Ka.out.1
      replace hzb : w.heap.size + 1 < w11.heap.size := lt_of_cell (a := ⟨w.heap.size + 1, 0, none⟩) Kb.out.1
      go_wp2_with fail
      refine (rsign_any _ _ _ _ _ Sa.out).mono ?_
      rintro e w12 ⟨rfl, hb⟩
      clear qa0 qa1 qb0 qb1
      replace Ka : Hid (Cw w12 w.heap.size na A1 la.length ca) := Cw.keep Ka.out hb
      replace Kb : Hid (Cw w12 (w.heap.size + 1) nb A2 lb.length cb) := Cw.keep Kb.out hb
      replace Kx : Hid (Cw w12 w5.heap.size (negS na la).1.1 A5 (negS na la).1.2.length c5) := Cw.keep Kx.out hb
      replace Ky : Hid (Cw w12 w6.heap.size (negS na la).1.1 A6 (negS na la).1.2.length c6) := Cw.keep Ky.out hb
      replace Kp : Hid (Cw w12 w7.heap.size (absS na la).1.1 A7 (absS na la).1.2.length c7) := Cw.keep Kp.out hb
      replace Kq : Hid (Cw w12 w8.heap.size (absS na la).1.1 A8 (absS na la).1.2.length c8) := Cw.keep Kq.out hb
      replace Sa : Hid (Sl w12 A1 la ca) := Sl.below Sa.out hb
      replace Sb : Hid (Sl w12 A2 lb cb) := Sl.below Sb.out hb
      replace Sx : Hid (Sl w12 A5 (negS na la).1.2 c5) := Sl.below Sx.out hb
      replace Sy : Hid (Sl w12 A6 (negS na la).1.2 c6) := Sl.below Sy.out hb
      replace Sp : Hid (Sl w12 A7 (absS na la).1.2 c7) := Sl.below Sp.out hb
      replace Sq : Hid (Sl w12 A8 (absS na la).1.2 c8) := Sl.below Sq.out hb
      replace B : Hid (Below w.heap.size w w12) := below_mono B.out hb
      clear hb
      obtain ⟨qa0, qa1⟩ := Ka.out
      obtain ⟨qb0, qb1⟩ := Kb.out
      replace hza : w.heap.size < w12.heap.size := lt_of_cell (a := ⟨w.heap.size, 0, none⟩) Ka.out.1
      replace hzb : w.heap.size + 1 < w12.heap.size := lt_of_cell (a := ⟨w.heap.size + 1, 0, none⟩) Kb.out.1
      go_wp2_with fail
      refine (bits_any _ _ _ _ _ Sa.out).mono ?_
      rintro e w13 ⟨rfl, hb⟩
      clear qa0 qa1 qb0 qb1
      replace Ka : Hid (Cw w13 w.heap.size na A1 la.length ca) := Cw.keep Ka.out hb
      replace Kb : Hid (Cw w13 (w.heap.size + 1) nb A2 lb.length cb) := Cw.keep Kb.out hb
      replace Kx : Hid (Cw w13 w5.heap.size (negS na la).1.1 A5 (negS na la).1.2.length c5) := Cw.keep Kx.out hb
      replace Ky : Hid (Cw w13 w6.heap.size (negS na la).1.1 A6 (negS na la).1.2.length c6) := Cw.keep Ky.out hb
      replace Kp : Hid (Cw w13 w7.heap.size (absS na la).1.1 A7 (absS na la).1.2.length c7) := Cw.keep Kp.out hb
      replace Kq : Hid (Cw w13 w8.heap.size (absS na la).1.1 A8 (absS na la).1.2.length c8) := Cw.keep Kq.out hb
      replace Sa : Hid (Sl w13 A1 la ca) := Sl.below Sa.out hb
      replace Sb : Hid (Sl w13 A2 lb cb) := Sl.below Sb.out hb
      replace Sx : Hid (Sl w13 A5 (negS na la).1.2 c5) := Sl.below Sx.out hb
      replace Sy : Hid (Sl w13 A6 (negS na la).1.2 c6) := Sl.below Sy.out hb
      replace Sp : Hid (Sl w13 A7 (absS na la).1.2 c7) := Sl.below Sp.out hb
      replace Sq : Hid (Sl w13 A8 (absS na la).1.2 c8) := Sl.below Sq.out hb
      replace B : Hid (Below w.heap.size w w13) := below_mono B.out hb
      clear hb
      obtain ⟨qa0, qa1⟩ := Ka.out
      obtain ⟨qb0, qb1⟩ := Kb.out
      replace hza : w.heap.size < w13.heap.size := lt_of_cell (a := ⟨w.heap.size, 0, none⟩) Ka.out.1
      replace hzb : w.heap.size + 1 < w13.heap.size := lt_of_cell (a := ⟨w.heap.size + 1, 0, none⟩) Kb.out.1
      go_wp2_with fail
      refine (rbits_any _ _ _ _ _ Sa.out).mono ?_
      rintro e w14 ⟨rfl, hb⟩
      clear qa0 qa1 qb0 qb1
      replace Ka : Hid (Cw w14 w.heap.size na A1 la.length ca) := Cw.keep Ka.out hb
      replace Kb : Hid (Cw w14 (w.heap.size + 1) nb A2 lb.length cb) := Cw.keep Kb.out hb
      replace Kx : Hid (Cw w14 w5.heap.size (negS na la).1.1 A5 (negS na la).1.2.length c5) := Cw.keep Kx.out hb
      replace Ky : Hid (Cw w14 w6.heap.size (negS na la).1.1 A6 (negS na la).1.2.length c6) := Cw.keep Ky.out hb
      replace Kp : Hid (Cw w14 w7.heap.size (absS na la).1.1 A7 (absS na la).1.2.length c7) := Cw.keep Kp.out hb
      replace Kq : Hid (Cw w14 w8.heap.size (absS na la).1.1 A8 (absS na la).1.2.length c8) := Cw.keep Kq.out hb
      replace Sa : Hid (Sl w14 A1 la ca) := Sl.below Sa.out hb
      replace Sb : Hid (Sl w14 A2 lb cb) := Sl.below Sb.out hb
      replace Sx : Hid (Sl w14 A5 (negS na la).1.2 c5) := Sl.below Sx.out hb
      replace Sy : Hid (Sl w14 A6 (negS na la).1.2 c6) := Sl.below Sy.out hb
      replace Sp : Hid (Sl w14 A7 (absS na la).1.2 c7) := Sl.below Sp.out hb
      replace Sq : Hid (Sl w14 A8 (absS na la).1.2 c8) := Sl.below Sq.out hb
      replace B : Hid (Below w.heap.size w w14) := below_mono B.out hb
      clear hb
      obtain ⟨qa0, qa1⟩ := Ka.out
      obtain ⟨qb0, qb1⟩ := Kb.out
      replace hza : w.heap.size < w14.heap.size := lt_of_cell (a := ⟨w.heap.size, 0, none⟩) Ka.out.1
      replace hzb : w.heap.size + 1 < w14.heap.size := lt_of_cell (a := ⟨w.heap.size + 1, 0, none⟩) Kb.out.1
      go_wp2_with fail
      clear qa0 qa1 qb0 qb1
      have J0 : Hid (w14.drew.cell? ⟨w.heap.size, 0, none⟩ = some (.bool na) ∧ w14.drew.cell? ⟨w.heap.size, 1, none⟩ = some (.slice A1 la.length ca) ∧ w14.drew.cell? ⟨w5.heap.size, 0, none⟩ = some (.bool (negS na la).1.1) ∧ w14.drew.cell? ⟨w5.heap.size, 1, none⟩ = some (.slice A5 (negS na la).1.2.length c5) ∧ w14.drew.cell? ⟨w6.heap.size, 0, none⟩ = some (.bool (negS na la).1.1) ∧ w14.drew.cell? ⟨w6.heap.size, 1, none⟩ = some (.slice A6 (negS na la).1.2.length c6)) :=
        ⟨Ka.out.1, Ka.out.2, Kx.out.1, Kx.out.2, Ky.out.1, Ky.out.2⟩
      go_region_held3 (fun w' => w'.cell? ⟨w.heap.size, 0, none⟩ = some (.bool na) ∧ w'.cell? ⟨w.heap.size, 1, none⟩ = some (.slice A1 la.length ca) ∧ w'.cell? ⟨w5.heap.size, 0, none⟩ = some (.bool (negS na la).1.1) ∧ w'.cell? ⟨w5.heap.size, 1, none⟩ = some (.slice A5 (negS na la).1.2.length c5) ∧ w'.cell? ⟨w6.heap.size, 0, none⟩ = some (.bool (negS na la).1.1) ∧ w'.cell? ⟨w6.heap.size, 1, none⟩ = some (.slice A6 (negS na la).1.2.length c6))
        (first | exact J6.out | exact J5.out | exact J4.out | exact J3.out | exact J2.out | exact J1.out | exact J0.out)
        (first
          | (go_at_call 19; refine (wcheck_any na A1 la ca _ Sa.out.drew).mono ?_; rintro e v1 ⟨rfl, hb1⟩; have J1 := Lib.hid (keep6 hb1 J0.out))
          | (go_at_call 20; refine (rcheck_any na A1 la ca _ (Sa.out.drew.below hb1)).mono ?_; rintro e v2 ⟨rfl, hb2⟩; have J2 := Lib.hid (keep6 hb2 J1.out))
          | (go_at_call 22; refine (from_any n _ h1 h2).mono ?_; rintro e v3 ⟨A20, c20, rfl, hs20, hb3⟩; have J3 := Lib.hid (keep6 hb3 J2.out))
          | (go_at_call 23; refine (rfrom_any n _ h1 h2).mono ?_; rintro e v4 ⟨A21, c21, rfl, hs21, hb4⟩; have J4 := Lib.hid (keep6 hb4 J3.out))
          | (go_at_call 21; refine (same_any _ _ _ _ _ _ _ _ _ (hs20.below hb4) hs21).mono ?_; rw [sameB_self]; rintro e v5 ⟨rfl, hb5⟩; clear hs20; have J5 := Lib.hid (keep6 hb5 J4.out))
          | (go_at_call 21; refine (same_any _ _ _ _ _ _ _ _ _ (((((Sx.out.drew.below hb1).below hb2).below hb3).below hb4).below hb5) (((((Sy.out.drew.below hb1).below hb2).below hb3).below hb4).below hb5)).mono ?_; rw [sameB_self]; rintro e v6 ⟨rfl, hb6⟩; have J6 := Lib.hid (keep6 hb6 J5.out)))
      obtain ⟨p0, p1⟩ := Cw.keep (Cw.keep (Cw.keep (Cw.keep (Cw.keep (Cw.keep Kp.out.drew hb1) hb2) hb3) hb4) hb5) hb6
      obtain ⟨q0, q1⟩ := Cw.keep (Cw.keep (Cw.keep (Cw.keep (Cw.keep (Cw.keep Kq.out.drew hb1) hb2) hb3) hb4) hb5) hb6
      go_wp2_with fail
      refine (same_any _ _ _ _ _ _ _ _ _ ((((((Sp.out.drew.below hb1).below hb2).below hb3).below hb4).below hb5).below hb6) ((((((Sq.out.drew.below hb1).below hb2).below hb3).below hb4).below hb5).below hb6)).mono ?_
      rw [sameB_self]
      rintro e v7 ⟨rfl, hb7⟩
      go_wp2
      go_ret
      exact ⟨rfl, below_mono (below_mono (below_mono (below_mono (below_mono (below_mono (below_mono B.out.drew hb1) hb2) hb3) hb4) hb5) hb6) hb7⟩
    · go_enter Try.func3, Try.ntmps3
      go_wp2_with fail
      refine (great_any na A1 la ca _).mono ?_
      rintro e w1 ⟨rfl, hb⟩
      obtain ⟨qb0, qb1⟩ : Cw w1 (w.heap.size + 1) nb A2 lb.length cb := Cw.keep (Cw.fresh (by simp) _ _ _ _ _) hb
      go_wp2_with fail
      refine (great_any nb A2 lb cb _).mono ?_
      rintro e w2 ⟨rfl, hb2⟩
      go_wp2
      go_ret
      exact ⟨rfl, below_mono (below_mono (blw2 _ _ _) hb) hb2⟩
  · go_enter Try.func3, Try.ntmps3
    go_wp2_with fail
    refine (great_any na A1 la ca _).mono ?_
    rintro e w1 ⟨rfl, hb⟩
    go_wp2
    go_ret
    exact ⟨rfl, below_mono (blw2 _ _ _) hb⟩
end Go.Proofs.Ytejapkdhbpngbaa

/- The walk of the law WideMore. -/
import Derived.Test.YtejapkdhbpngbaaW38
import Derived.Test.YtejapkdhbpngbaaW39
import Derived.Test.YtejapkdhbpngbaaW40
import Derived.Test.YtejapkdhbpngbaaW46
import Derived.Test.YtejapkdhbpngbaaW42
import Derived.Test.YtejapkdhbpngbaaW43
import Derived.Test.YtejapkdhbpngbaaW44
import Derived.Test.YtejapkdhbpngbaaW47
import Derived.Test.YtejapkdhbpngbaaTwin
namespace Go.Proofs.Ytejapkdhbpngbaa
open Go.RowKit
attribute [local go_sem ↓] Go.wp_at_zero Go.wp_at_succ

theorem sameB_self (n : Bool) (l : List Nat) : sameB n l n l = true := by simp [sameB]
theorem same_self (n : Bool) (A1 A2 : Option Addr) (l : List Nat) (c1 c2 : Nat) (w : World) (hs1 : Sl w A1 l c1) (hs2 : Sl w A2 l c2) :
    Calls Try.prog 21 #[.agg #[.bool n, .slice A1 l.length c1], .agg #[.bool n, .slice A2 l.length c2]] w fun e w' => e = .returned (.bool true) ∧ Below w.heap.size w w' := by
  have h := same_any n n A1 A2 l l c1 c2 w hs1 hs2
  rw [sameB_self] at h
  exact h

set_option maxRecDepth 100000 in
set_option maxHeartbeats 2000000 in
theorem wideMore_walk (na nb : Bool) (A1 A2 : Option Addr) (la lb : List Nat) (ca cb : Nat) (k n : Int) (w : World) (hsa : Sl w A1 la ca) (hsb : Sl w A2 lb cb) :
    Calls Try.prog 5 #[.agg #[.bool na, .slice A1 la.length ca], .agg #[.bool nb, .slice A2 lb.length cb], .int .i64 k, .int .i64 n] w fun e w' => e = .returned (.bool true) ∧ Below w.heap.size w w' := by
  have Sa := Lib.hid hsa
  have Sb := Lib.hid hsb
  clear hsa hsb
  have B : Hid (Below w.heap.size w w) := Below.refl _ _
  cases hga : greatB la
  · cases hgb : greatB lb
    · go_enter Try.func5, Try.ntmps5
      go_wp2_with fail
      refine (great_any na A1 la ca _).mono ?_
      rintro e w1 ⟨rfl, hb⟩
      have Ka : Hid (Cw w1 w.heap.size na A1 la.length ca) := Cw.keep (Cw.keep (Cw.fresh (by simp) _ _ _ _ _) (blw1 _ _)) hb
      have Kb : Hid (Cw w1 (w.heap.size + 1) nb A2 lb.length cb) := Cw.keep (Cw.fresh (by simp) _ _ _ _ _) hb
      replace Sa : Hid (Sl w1 A1 la ca) := Sl.below ((Sa.out.alloc _).alloc _) hb
      replace Sb : Hid (Sl w1 A2 lb cb) := Sl.below ((Sb.out.alloc _).alloc _) hb
      replace B : Hid (Below w.heap.size w w1) := below_mono (below_mono (below_mono B.out (blw1 _ _)) (blw1 _ _)) hb
      clear hb
      obtain ⟨qa0, qa1⟩ := Ka.out
      obtain ⟨qb0, qb1⟩ := Kb.out
      have hza : w.heap.size < w1.heap.size := lt_of_cell (a := ⟨w.heap.size, 0, none⟩) Ka.out.1
      have hzb : w.heap.size + 1 < w1.heap.size := lt_of_cell (a := ⟨w.heap.size + 1, 0, none⟩) Kb.out.1
      go_wp2_with fail
      refine (great_any nb A2 lb cb _).mono ?_
      rintro e w2 ⟨rfl, hb⟩
      clear qa0 qa1 qb0 qb1
      replace Ka : Hid (Cw w2 w.heap.size na A1 la.length ca) := Cw.keep Ka.out hb
      replace Kb : Hid (Cw w2 (w.heap.size + 1) nb A2 lb.length cb) := Cw.keep Kb.out hb
      replace Sa : Hid (Sl w2 A1 la ca) := Sl.below Sa.out hb
      replace Sb : Hid (Sl w2 A2 lb cb) := Sl.below Sb.out hb
      replace B : Hid (Below w.heap.size w w2) := below_mono B.out hb
      clear hb
      obtain ⟨qa0, qa1⟩ := Ka.out
      obtain ⟨qb0, qb1⟩ := Kb.out
      replace hza : w.heap.size < w2.heap.size := lt_of_cell (a := ⟨w.heap.size, 0, none⟩) Ka.out.1
      replace hzb : w.heap.size + 1 < w2.heap.size := lt_of_cell (a := ⟨w.heap.size + 1, 0, none⟩) Kb.out.1
      go_wp2_with fail
      refine (wgcd_any _ _ _ _ _ _ _ _ _ Sa.out Sb.out).mono ?_
      rintro e w3 ⟨A3, c3, rfl, hs3, hb⟩
      clear qa0 qa1 qb0 qb1
      replace Ka : Hid (Cw w3 w.heap.size na A1 la.length ca) := Cw.keep Ka.out hb
      replace Kb : Hid (Cw w3 (w.heap.size + 1) nb A2 lb.length cb) := Cw.keep Kb.out hb
      replace Sa : Hid (Sl w3 A1 la ca) := Sl.below Sa.out hb
      replace Sb : Hid (Sl w3 A2 lb cb) := Sl.below Sb.out hb
      replace B : Hid (Below w.heap.size w w3) := below_mono B.out hb
      clear hb
      have Sx : Hid (Sl w3 A3 (gcdS na la nb lb).1.2 c3) := hs3
      clear hs3
      obtain ⟨qa0, qa1⟩ := Ka.out
      obtain ⟨qb0, qb1⟩ := Kb.out
      replace hza : w.heap.size < w3.heap.size := lt_of_cell (a := ⟨w.heap.size, 0, none⟩) Ka.out.1
      replace hzb : w.heap.size + 1 < w3.heap.size := lt_of_cell (a := ⟨w.heap.size + 1, 0, none⟩) Kb.out.1
      go_wp2_with fail
      refine (rgcd_any _ _ _ _ _ _ _ _ _ (Sa.out.alloc _) (Sb.out.alloc _)).mono ?_
      rintro e w4 ⟨A4, c4, rfl, hs4, hb⟩
      clear qa0 qa1 qb0 qb1
      replace Ka : Hid (Cw w4 w.heap.size na A1 la.length ca) := Cw.keep (Cw.keep Ka.out (blw1 _ _)) hb
      replace Kb : Hid (Cw w4 (w.heap.size + 1) nb A2 lb.length cb) := Cw.keep (Cw.keep Kb.out (blw1 _ _)) hb
      have Kx : Hid (Cw w4 w3.heap.size (gcdS na la nb lb).1.1 A3 (gcdS na la nb lb).1.2.length c3) := Cw.keep (Cw.fresh (by simp) _ _ _ _ _) hb
      replace Sa : Hid (Sl w4 A1 la ca) := Sl.below (Sa.out.alloc _) hb
      replace Sb : Hid (Sl w4 A2 lb cb) := Sl.below (Sb.out.alloc _) hb
      replace Sx : Hid (Sl w4 A3 (gcdS na la nb lb).1.2 c3) := Sl.below (Sx.out.alloc _) hb
      replace B : Hid (Below w.heap.size w w4) := below_mono (below_mono B.out (blw1 _ _)) hb
      clear hb
      have Sy : Hid (Sl w4 A4 (gcdS na la nb lb).1.2 c4) := hs4
      clear hs4
      obtain ⟨qa0, qa1⟩ := Ka.out
      obtain ⟨qb0, qb1⟩ := Kb.out
      replace hza : w.heap.size < w4.heap.size := lt_of_cell (a := ⟨w.heap.size, 0, none⟩) Ka.out.1
      replace hzb : w.heap.size + 1 < w4.heap.size := lt_of_cell (a := ⟨w.heap.size + 1, 0, none⟩) Kb.out.1
      have hzx : w3.heap.size < w4.heap.size := lt_of_cell (a := ⟨w3.heap.size, 0, none⟩) Kx.out.1
      go_wp2_with fail
      refine (wshift_any _ _ _ _ _ _ (Sa.out.alloc _)).mono ?_
      rintro e w5 ⟨A5, c5, rfl, hs5, hb⟩
      clear qa0 qa1 qb0 qb1
      replace Ka : Hid (Cw w5 w.heap.size na A1 la.length ca) := Cw.keep (Cw.keep Ka.out (blw1 _ _)) hb
      replace Kb : Hid (Cw w5 (w.heap.size + 1) nb A2 lb.length cb) := Cw.keep (Cw.keep Kb.out (blw1 _ _)) hb
      replace Kx : Hid (Cw w5 w3.heap.size (gcdS na la nb lb).1.1 A3 (gcdS na la nb lb).1.2.length c3) := Cw.keep (Cw.keep Kx.out (blw1 _ _)) hb
      have Ky : Hid (Cw w5 w4.heap.size (gcdS na la nb lb).1.1 A4 (gcdS na la nb lb).1.2.length c4) := Cw.keep (Cw.fresh (by simp) _ _ _ _ _) hb
      replace Sa : Hid (Sl w5 A1 la ca) := Sl.below (Sa.out.alloc _) hb
      replace Sb : Hid (Sl w5 A2 lb cb) := Sl.below (Sb.out.alloc _) hb
      replace Sx : Hid (Sl w5 A3 (gcdS na la nb lb).1.2 c3) := Sl.below (Sx.out.alloc _) hb
      replace Sy : Hid (Sl w5 A4 (gcdS na la nb lb).1.2 c4) := Sl.below (Sy.out.alloc _) hb
      replace B : Hid (Below w.heap.size w w5) := below_mono (below_mono B.out (blw1 _ _)) hb
      clear hb
      have Sp : Hid (Sl w5 A5 (shS na la k).1.2 c5) := hs5
      clear hs5
      obtain ⟨qa0, qa1⟩ := Ka.out
      obtain ⟨qb0, qb1⟩ := Kb.out
      replace hza : w.heap.size < w5.heap.size := lt_of_cell (a := ⟨w.heap.size, 0, none⟩) Ka.out.1
      replace hzb : w.heap.size + 1 < w5.heap.size := lt_of_cell (a := ⟨w.heap.size + 1, 0, none⟩) Kb.out.1
      replace hzx : w3.heap.size < w5.heap.size := lt_of_cell (a := ⟨w3.heap.size, 0, none⟩) Kx.out.1
      have hzy : w4.heap.size < w5.heap.size := lt_of_cell (a := ⟨w4.heap.size, 0, none⟩) Ky.out.1
      go_wp2_with fail
      refine (rshift_any _ _ _ _ _ _ (Sa.out.alloc _)).mono ?_
      rintro e w6 ⟨A6, c6, rfl, hs6, hb⟩
      clear qa0 qa1 qb0 qb1
      replace Ka : Hid (Cw w6 w.heap.size na A1 la.length ca) := Cw.keep (Cw.keep Ka.out (blw1 _ _)) hb
      replace Kb : Hid (Cw w6 (w.heap.size + 1) nb A2 lb.length cb) := Cw.keep (Cw.keep Kb.out (blw1 _ _)) hb
      replace Kx : Hid (Cw w6 w3.heap.size (gcdS na la nb lb).1.1 A3 (gcdS na la nb lb).1.2.length c3) := Cw.keep (Cw.keep Kx.out (blw1 _ _)) hb
      replace Ky : Hid (Cw w6 w4.heap.size (gcdS na la nb lb).1.1 A4 (gcdS na la nb lb).1.2.length c4) := Cw.keep (Cw.keep Ky.out (blw1 _ _)) hb
      have Kp : Hid (Cw w6 w5.heap.size (shS na la k).1.1 A5 (shS na la k).1.2.length c5) := Cw.keep (Cw.fresh (by simp) _ _ _ _ _) hb
      replace Sa : Hid (Sl w6 A1 la ca) := Sl.below (Sa.out.alloc _) hb
      replace Sb : Hid (Sl w6 A2 lb cb) := Sl.below (Sb.out.alloc _) hb
      replace Sx : Hid (Sl w6 A3 (gcdS na la nb lb).1.2 c3) := Sl.below (Sx.out.alloc _) hb
      replace Sy : Hid (Sl w6 A4 (gcdS na la nb lb).1.2 c4) := Sl.below (Sy.out.alloc _) hb
      replace Sp : Hid (Sl w6 A5 (shS na la k).1.2 c5) := Sl.below (Sp.out.alloc _) hb
      replace B : Hid (Below w.heap.size w w6) := below_mono (below_mono B.out (blw1 _ _)) hb
      clear hb
      have Sq : Hid (Sl w6 A6 (shS na la k).1.2 c6) := hs6
      clear hs6
      obtain ⟨qa0, qa1⟩ := Ka.out
      obtain ⟨qb0, qb1⟩ := Kb.out
      replace hza : w.heap.size < w6.heap.size := lt_of_cell (a := ⟨w.heap.size, 0, none⟩) Ka.out.1
      replace hzb : w.heap.size + 1 < w6.heap.size := lt_of_cell (a := ⟨w.heap.size + 1, 0, none⟩) Kb.out.1
      replace hzx : w3.heap.size < w6.heap.size := lt_of_cell (a := ⟨w3.heap.size, 0, none⟩) Kx.out.1
      replace hzy : w4.heap.size < w6.heap.size := lt_of_cell (a := ⟨w4.heap.size, 0, none⟩) Ky.out.1
      have hzp : w5.heap.size < w6.heap.size := lt_of_cell (a := ⟨w5.heap.size, 0, none⟩) Kp.out.1
      go_wp2_with fail
      refine (wpow_any _ _ _ _ _ _ (Sa.out.alloc _)).mono ?_
      rintro e w7 ⟨A7, c7, rfl, hs7, hb⟩
      clear qa0 qa1 qb0 qb1
      replace Ka : Hid (Cw w7 w.heap.size na A1 la.length ca) := Cw.keep (Cw.keep Ka.out (blw1 _ _)) hb
      replace Kb : Hid (Cw w7 (w.heap.size + 1) nb A2 lb.length cb) := Cw.keep (Cw.keep Kb.out (blw1 _ _)) hb
      replace Kx : Hid (Cw w7 w3.heap.size (gcdS na la nb lb).1.1 A3 (gcdS na la nb lb).1.2.length c3) := Cw.keep (Cw.keep Kx.out (blw1 _ _)) hb
      replace Ky : Hid (Cw w7 w4.heap.size (gcdS na la nb lb).1.1 A4 (gcdS na la nb lb).1.2.length c4) := Cw.keep (Cw.keep Ky.out (blw1 _ _)) hb
      replace Kp : Hid (Cw w7 w5.heap.size (shS na la k).1.1 A5 (shS na la k).1.2.length c5) := Cw.keep (Cw.keep Kp.out (blw1 _ _)) hb
      have Kq : Hid (Cw w7 w6.heap.size (shS na la k).1.1 A6 (shS na la k).1.2.length c6) := Cw.keep (Cw.fresh (by simp) _ _ _ _ _) hb
      replace Sa : Hid (Sl w7 A1 la ca) := Sl.below (Sa.out.alloc _) hb
      replace Sb : Hid (Sl w7 A2 lb cb) := Sl.below (Sb.out.alloc _) hb
      replace Sx : Hid (Sl w7 A3 (gcdS na la nb lb).1.2 c3) := Sl.below (Sx.out.alloc _) hb
      replace Sy : Hid (Sl w7 A4 (gcdS na la nb lb).1.2 c4) := Sl.below (Sy.out.alloc _) hb
      replace Sp : Hid (Sl w7 A5 (shS na la k).1.2 c5) := Sl.below (Sp.out.alloc _) hb
      replace Sq : Hid (Sl w7 A6 (shS na la k).1.2 c6) := Sl.below (Sq.out.alloc _) hb
      replace B : Hid (Below w.heap.size w w7) := below_mono (below_mono B.out (blw1 _ _)) hb
      clear hb
      have Ss : Hid (Sl w7 A7 (powS na la n).1.2 c7) := hs7
      clear hs7
      obtain ⟨qa0, qa1⟩ := Ka.out
      obtain ⟨qb0, qb1⟩ := Kb.out
      replace hza : w.heap.size < w7.heap.size := lt_of_cell (a := ⟨w.heap.size, 0, none⟩) Ka.out.1
      replace hzb : w.heap.size + 1 < w7.heap.size := lt_of_cell (a := ⟨w.heap.size + 1, 0, none⟩) Kb.out.1
      replace hzx : w3.heap.size < w7.heap.size := lt_of_cell (a := ⟨w3.heap.size, 0, none⟩) Kx.out.1
      replace hzy : w4.heap.size < w7.heap.size := lt_of_cell (a := ⟨w4.heap.size, 0, none⟩) Ky.out.1
      replace hzp : w5.heap.size < w7.heap.size := lt_of_cell (a := ⟨w5.heap.size, 0, none⟩) Kp.out.1
      have hzq : w6.heap.size < w7.heap.size := lt_of_cell (a := ⟨w6.heap.size, 0, none⟩) Kq.out.1
      go_wp2_with fail
      refine (rpow_any _ _ _ _ _ _ (Sa.out.alloc _)).mono ?_
      rintro e w8 ⟨A8, c8, rfl, hs8, hb⟩
      clear qa0 qa1 qb0 qb1
      replace Ka : Hid (Cw w8 w.heap.size na A1 la.length ca) := Cw.keep (Cw.keep Ka.out (blw1 _ _)) hb
      replace Kb : Hid (Cw w8 (w.heap.size + 1) nb A2 lb.length cb) := Cw.keep (Cw.keep Kb.out (blw1 _ _)) hb
      replace Kx : Hid (Cw w8 w3.heap.size (gcdS na la nb lb).1.1 A3 (gcdS na la nb lb).1.2.length c3) := Cw.keep (Cw.keep Kx.out (blw1 _ _)) hb
      replace Ky : Hid (Cw w8 w4.heap.size (gcdS na la nb lb).1.1 A4 (gcdS na la nb lb).1.2.length c4) := Cw.keep (Cw.keep Ky.out (blw1 _ _)) hb
      replace Kp : Hid (Cw w8 w5.heap.size (shS na la k).1.1 A5 (shS na la k).1.2.length c5) := Cw.keep (Cw.keep Kp.out (blw1 _ _)) hb
      replace Kq : Hid (Cw w8 w6.heap.size (shS na la k).1.1 A6 (shS na la k).1.2.length c6) := Cw.keep (Cw.keep Kq.out (blw1 _ _)) hb
      have Ks : Hid (Cw w8 w7.heap.size (powS na la n).1.1 A7 (powS na la n).1.2.length c7) := Cw.keep (Cw.fresh (by simp) _ _ _ _ _) hb
      replace Sa : Hid (Sl w8 A1 la ca) := Sl.below (Sa.out.alloc _) hb
      replace Sb : Hid (Sl w8 A2 lb cb) := Sl.below (Sb.out.alloc _) hb
      replace Sx : Hid (Sl w8 A3 (gcdS na la nb lb).1.2 c3) := Sl.below (Sx.out.alloc _) hb
      replace Sy : Hid (Sl w8 A4 (gcdS na la nb lb).1.2 c4) := Sl.below (Sy.out.alloc _) hb
      replace Sp : Hid (Sl w8 A5 (shS na la k).1.2 c5) := Sl.below (Sp.out.alloc _) hb
      replace Sq : Hid (Sl w8 A6 (shS na la k).1.2 c6) := Sl.below (Sq.out.alloc _) hb
      replace Ss : Hid (Sl w8 A7 (powS na la n).1.2 c7) := Sl.below (Ss.out.alloc _) hb
      replace B : Hid (Below w.heap.size w w8) := below_mono (below_mono B.out (blw1 _ _)) hb
      clear hb
      have St : Hid (Sl w8 A8 (powS na la n).1.2 c8) := hs8
      clear hs8
      obtain ⟨qa0, qa1⟩ := Ka.out
      obtain ⟨qb0, qb1⟩ := Kb.out
      replace hza : w.heap.size < w8.heap.size := lt_of_cell (a := ⟨w.heap.size, 0, none⟩) Ka.out.1
      replace hzb : w.heap.size + 1 < w8.heap.size := lt_of_cell (a := ⟨w.heap.size + 1, 0, none⟩) Kb.out.1
      replace hzx : w3.heap.size < w8.heap.size := lt_of_cell (a := ⟨w3.heap.size, 0, none⟩) Kx.out.1
      replace hzy : w4.heap.size < w8.heap.size := lt_of_cell (a := ⟨w4.heap.size, 0, none⟩) Ky.out.1
      replace hzp : w5.heap.size < w8.heap.size := lt_of_cell (a := ⟨w5.heap.size, 0, none⟩) Kp.out.1
      replace hzq : w6.heap.size < w8.heap.size := lt_of_cell (a := ⟨w6.heap.size, 0, none⟩) Kq.out.1
      have hzs : w7.heap.size < w8.heap.size := lt_of_cell (a := ⟨w7.heap.size, 0, none⟩) Ks.out.1
      go_wp2_with fail
      refine (wsqrt_any _ _ _ _ _ (Sa.out.alloc _)).mono ?_
      rintro e w9 ⟨A9, c9, rfl, hs9, hb⟩
      clear qa0 qa1 qb0 qb1
      replace Ka : Hid (Cw w9 w.heap.size na A1 la.length ca) := Cw.keep (Cw.keep Ka.out (blw1 _ _)) hb
      replace Kb : Hid (Cw w9 (w.heap.size + 1) nb A2 lb.length cb) := Cw.keep (Cw.keep Kb.out (blw1 _ _)) hb
      replace Kx : Hid (Cw w9 w3.heap.size (gcdS na la nb lb).1.1 A3 (gcdS na la nb lb).1.2.length c3) := Cw.keep (Cw.keep Kx.out (blw1 _ _)) hb
      replace Ky : Hid (Cw w9 w4.heap.size (gcdS na la nb lb).1.1 A4 (gcdS na la nb lb).1.2.length c4) := Cw.keep (Cw.keep Ky.out (blw1 _ _)) hb
      replace Kp : Hid (Cw w9 w5.heap.size (shS na la k).1.1 A5 (shS na la k).1.2.length c5) := Cw.keep (Cw.keep Kp.out (blw1 _ _)) hb
      replace Kq : Hid (Cw w9 w6.heap.size (shS na la k).1.1 A6 (shS na la k).1.2.length c6) := Cw.keep (Cw.keep Kq.out (blw1 _ _)) hb
      replace Ks : Hid (Cw w9 w7.heap.size (powS na la n).1.1 A7 (powS na la n).1.2.length c7) := Cw.keep (Cw.keep Ks.out (blw1 _ _)) hb
      have Kt : Hid (Cw w9 w8.heap.size (powS na la n).1.1 A8 (powS na la n).1.2.length c8) := Cw.keep (Cw.fresh (by simp) _ _ _ _ _) hb
      replace Sa : Hid (Sl w9 A1 la ca) := Sl.below (Sa.out.alloc _) hb
      replace Sb : Hid (Sl w9 A2 lb cb) := Sl.below (Sb.out.alloc _) hb
      replace Sx : Hid (Sl w9 A3 (gcdS na la nb lb).1.2 c3) := Sl.below (Sx.out.alloc _) hb
      replace Sy : Hid (Sl w9 A4 (gcdS na la nb lb).1.2 c4) := Sl.below (Sy.out.alloc _) hb
      replace Sp : Hid (Sl w9 A5 (shS na la k).1.2 c5) := Sl.below (Sp.out.alloc _) hb
      replace Sq : Hid (Sl w9 A6 (shS na la k).1.2 c6) := Sl.below (Sq.out.alloc _) hb
      replace Ss : Hid (Sl w9 A7 (powS na la n).1.2 c7) := Sl.below (Ss.out.alloc _) hb
      replace St : Hid (Sl w9 A8 (powS na la n).1.2 c8) := Sl.below (St.out.alloc _) hb
      replace B : Hid (Below w.heap.size w w9) := below_mono (below_mono B.out (blw1 _ _)) hb
      clear hb
      have Su : Hid (Sl w9 A9 (sqrtS na la).1.2 c9) := hs9
      clear hs9
      obtain ⟨qa0, qa1⟩ := Ka.out
      obtain ⟨qb0, qb1⟩ := Kb.out
      replace hza : w.heap.size < w9.heap.size := lt_of_cell (a := ⟨w.heap.size, 0, none⟩) Ka.out.1
      replace hzb : w.heap.size + 1 < w9.heap.size := lt_of_cell (a := ⟨w.heap.size + 1, 0, none⟩) Kb.out.1
      replace hzx : w3.heap.size < w9.heap.size := lt_of_cell (a := ⟨w3.heap.size, 0, none⟩) Kx.out.1
      replace hzy : w4.heap.size < w9.heap.size := lt_of_cell (a := ⟨w4.heap.size, 0, none⟩) Ky.out.1
      replace hzp : w5.heap.size < w9.heap.size := lt_of_cell (a := ⟨w5.heap.size, 0, none⟩) Kp.out.1
      replace hzq : w6.heap.size < w9.heap.size := lt_of_cell (a := ⟨w6.heap.size, 0, none⟩) Kq.out.1
      replace hzs : w7.heap.size < w9.heap.size := lt_of_cell (a := ⟨w7.heap.size, 0, none⟩) Ks.out.1
      have hzt : w8.heap.size < w9.heap.size := lt_of_cell (a := ⟨w8.heap.size, 0, none⟩) Kt.out.1
      go_wp2_with fail
      refine (rsqrt_any _ _ _ _ _ (Sa.out.alloc _)).mono ?_
      rintro e w10 ⟨A10, c10, rfl, hs10, hb⟩
      clear qa0 qa1 qb0 qb1
      replace Ka : Hid (Cw w10 w.heap.size na A1 la.length ca) := Cw.keep (Cw.keep Ka.out (blw1 _ _)) hb
      replace Kb : Hid (Cw w10 (w.heap.size + 1) nb A2 lb.length cb) := Cw.keep (Cw.keep Kb.out (blw1 _ _)) hb
      replace Kx : Hid (Cw w10 w3.heap.size (gcdS na la nb lb).1.1 A3 (gcdS na la nb lb).1.2.length c3) := Cw.keep (Cw.keep Kx.out (blw1 _ _)) hb
      replace Ky : Hid (Cw w10 w4.heap.size (gcdS na la nb lb).1.1 A4 (gcdS na la nb lb).1.2.length c4) := Cw.keep (Cw.keep Ky.out (blw1 _ _)) hb
      replace Kp : Hid (Cw w10 w5.heap.size (shS na la k).1.1 A5 (shS na la k).1.2.length c5) := Cw.keep (Cw.keep Kp.out (blw1 _ _)) hb
      replace Kq : Hid (Cw w10 w6.heap.size (shS na la k).1.1 A6 (shS na la k).1.2.length c6) := Cw.keep (Cw.keep Kq.out (blw1 _ _)) hb
      replace Ks : Hid (Cw w10 w7.heap.size (powS na la n).1.1 A7 (powS na la n).1.2.length c7) := Cw.keep (Cw.keep Ks.out (blw1 _ _)) hb
      replace Kt : Hid (Cw w10 w8.heap.size (powS na la n).1.1 A8 (powS na la n).1.2.length c8) := Cw.keep (Cw.keep Kt.out (blw1 _ _)) hb
      have Ku : Hid (Cw w10 w9.heap.size (sqrtS na la).1.1 A9 (sqrtS na la).1.2.length c9) := Cw.keep (Cw.fresh (by simp) _ _ _ _ _) hb
      replace Sa : Hid (Sl w10 A1 la ca) := Sl.below (Sa.out.alloc _) hb
      replace Sb : Hid (Sl w10 A2 lb cb) := Sl.below (Sb.out.alloc _) hb
      replace Sx : Hid (Sl w10 A3 (gcdS na la nb lb).1.2 c3) := Sl.below (Sx.out.alloc _) hb
      replace Sy : Hid (Sl w10 A4 (gcdS na la nb lb).1.2 c4) := Sl.below (Sy.out.alloc _) hb
      replace Sp : Hid (Sl w10 A5 (shS na la k).1.2 c5) := Sl.below (Sp.out.alloc _) hb
      replace Sq : Hid (Sl w10 A6 (shS na la k).1.2 c6) := Sl.below (Sq.out.alloc _) hb
      replace Ss : Hid (Sl w10 A7 (powS na la n).1.2 c7) := Sl.below (Ss.out.alloc _) hb
      replace St : Hid (Sl w10 A8 (powS na la n).1.2 c8) := Sl.below (St.out.alloc _) hb
      replace Su : Hid (Sl w10 A9 (sqrtS na la).1.2 c9) := Sl.below (Su.out.alloc _) hb
      replace B : Hid (Below w.heap.size w w10) := below_mono (below_mono B.out (blw1 _ _)) hb
      clear hb
      have Sv : Hid (Sl w10 A10 (sqrtS na la).1.2 c10) := hs10
      clear hs10
      obtain ⟨qa0, qa1⟩ := Ka.out
      obtain ⟨qb0, qb1⟩ := Kb.out
      replace hza : w.heap.size < w10.heap.size := lt_of_cell (a := ⟨w.heap.size, 0, none⟩) Ka.out.1
      replace hzb : w.heap.size + 1 < w10.heap.size := lt_of_cell (a := ⟨w.heap.size + 1, 0, none⟩) Kb.out.1
      replace hzx : w3.heap.size < w10.heap.size := lt_of_cell (a := ⟨w3.heap.size, 0, none⟩) Kx.out.1
      replace hzy : w4.heap.size < w10.heap.size := lt_of_cell (a := ⟨w4.heap.size, 0, none⟩) Ky.out.1
      replace hzp : w5.heap.size < w10.heap.size := lt_of_cell (a := ⟨w5.heap.size, 0, none⟩) Kp.out.1
      replace hzq : w6.heap.size < w10.heap.size := lt_of_cell (a := ⟨w6.heap.size, 0, none⟩) Kq.out.1
      replace hzs : w7.heap.size < w10.heap.size := lt_of_cell (a := ⟨w7.heap.size, 0, none⟩) Ks.out.1
      replace hzt : w8.heap.size < w10.heap.size := lt_of_cell (a := ⟨w8.heap.size, 0, none⟩) Kt.out.1
      have hzu : w9.heap.size < w10.heap.size := lt_of_cell (a := ⟨w9.heap.size, 0, none⟩) Ku.out.1
      clear qa0 qa1 qb0 qb1
      obtain ⟨qx0, qx1⟩ := Kx.out
      obtain ⟨qy0, qy1⟩ := Ky.out
      go_wp2_with fail
      refine (same_self _ _ _ _ _ _ _ (Sx.out.alloc _) (Sy.out.alloc _)).mono ?_
      rintro e w11 ⟨rfl, hb⟩
      clear qx0 qx1 qy0 qy1
      replace Ka : Hid (Cw w11 w.heap.size na A1 la.length ca) := Cw.keep (Cw.keep Ka.out (blw1 _ _)) hb
      replace Kb : Hid (Cw w11 (w.heap.size + 1) nb A2 lb.length cb) := Cw.keep (Cw.keep Kb.out (blw1 _ _)) hb
      replace Kx : Hid (Cw w11 w3.heap.size (gcdS na la nb lb).1.1 A3 (gcdS na la nb lb).1.2.length c3) := Cw.keep (Cw.keep Kx.out (blw1 _ _)) hb
      replace Ky : Hid (Cw w11 w4.heap.size (gcdS na la nb lb).1.1 A4 (gcdS na la nb lb).1.2.length c4) := Cw.keep (Cw.keep Ky.out (blw1 _ _)) hb
      replace Kp : Hid (Cw w11 w5.heap.size (shS na la k).1.1 A5 (shS na la k).1.2.length c5) := Cw.keep (Cw.keep Kp.out (blw1 _ _)) hb
      replace Kq : Hid (Cw w11 w6.heap.size (shS na la k).1.1 A6 (shS na la k).1.2.length c6) := Cw.keep (Cw.keep Kq.out (blw1 _ _)) hb
      replace Ks : Hid (Cw w11 w7.heap.size (powS na la n).1.1 A7 (powS na la n).1.2.length c7) := Cw.keep (Cw.keep Ks.out (blw1 _ _)) hb
      replace Kt : Hid (Cw w11 w8.heap.size (powS na la n).1.1 A8 (powS na la n).1.2.length c8) := Cw.keep (Cw.keep Kt.out (blw1 _ _)) hb
      replace Ku : Hid (Cw w11 w9.heap.size (sqrtS na la).1.1 A9 (sqrtS na la).1.2.length c9) := Cw.keep (Cw.keep Ku.out (blw1 _ _)) hb
      have Kv : Hid (Cw w11 w10.heap.size (sqrtS na la).1.1 A10 (sqrtS na la).1.2.length c10) := Cw.keep (Cw.fresh (by simp) _ _ _ _ _) hb
      replace Sa : Hid (Sl w11 A1 la ca) := Sl.below (Sa.out.alloc _) hb
      replace Sb : Hid (Sl w11 A2 lb cb) := Sl.below (Sb.out.alloc _) hb
      replace Sx : Hid (Sl w11 A3 (gcdS na la nb lb).1.2 c3) := Sl.below (Sx.out.alloc _) hb
      replace Sy : Hid (Sl w11 A4 (gcdS na la nb lb).1.2 c4) := Sl.below (Sy.out.alloc _) hb
      replace Sp : Hid (Sl w11 A5 (shS na la k).1.2 c5) := Sl.below (Sp.out.alloc _) hb
      replace Sq : Hid (Sl w11 A6 (shS na la k).1.2 c6) := Sl.below (Sq.out.alloc _) hb
      replace Ss : Hid (Sl w11 A7 (powS na la n).1.2 c7) := Sl.below (Ss.out.alloc _) hb
      replace St : Hid (Sl w11 A8 (powS na la n).1.2 c8) := Sl.below (St.out.alloc _) hb
      replace Su : Hid (Sl w11 A9 (sqrtS na la).1.2 c9) := Sl.below (Su.out.alloc _) hb
      replace Sv : Hid (Sl w11 A10 (sqrtS na la).1.2 c10) := Sl.below (Sv.out.alloc _) hb
      replace B : Hid (Below w.heap.size w w11) := below_mono (below_mono B.out (blw1 _ _)) hb
      clear hb
      replace hza : w.heap.size < w11.heap.size := lt_of_cell (a := ⟨w.heap.size, 0, none⟩) Ka.out.1
      replace hzb : w.heap.size + 1 < w11.heap.size := lt_of_cell (a := ⟨w.heap.size + 1, 0, none⟩) Kb.out.1
      replace hzx : w3.heap.size < w11.heap.size := lt_of_cell (a := ⟨w3.heap.size, 0, none⟩) Kx.out.1
      replace hzy : w4.heap.size < w11.heap.size := lt_of_cell (a := ⟨w4.heap.size, 0, none⟩) Ky.out.1
      replace hzp : w5.heap.size < w11.heap.size := lt_of_cell (a := ⟨w5.heap.size, 0, none⟩) Kp.out.1
      replace hzq : w6.heap.size < w11.heap.size := lt_of_cell (a := ⟨w6.heap.size, 0, none⟩) Kq.out.1
      replace hzs : w7.heap.size < w11.heap.size := lt_of_cell (a := ⟨w7.heap.size, 0, none⟩) Ks.out.1
      replace hzt : w8.heap.size < w11.heap.size := lt_of_cell (a := ⟨w8.heap.size, 0, none⟩) Kt.out.1
      replace hzu : w9.heap.size < w11.heap.size := lt_of_cell (a := ⟨w9.heap.size, 0, none⟩) Ku.out.1
      have hzv : w10.heap.size < w11.heap.size := lt_of_cell (a := ⟨w10.heap.size, 0, none⟩) Kv.out.1
      obtain ⟨qp0, qp1⟩ := Kp.out
      obtain ⟨qq0, qq1⟩ := Kq.out
      go_wp2_with fail
      refine (same_self _ _ _ _ _ _ _ Sp.out Sq.out).mono ?_
      rintro e w12 ⟨rfl, hb⟩
      clear qp0 qp1 qq0 qq1
      replace Ka : Hid (Cw w12 w.heap.size na A1 la.length ca) := Cw.keep Ka.out hb
      replace Kb : Hid (Cw w12 (w.heap.size + 1) nb A2 lb.length cb) := Cw.keep Kb.out hb
      replace Kx : Hid (Cw w12 w3.heap.size (gcdS na la nb lb).1.1 A3 (gcdS na la nb lb).1.2.length c3) := Cw.keep Kx.out hb
      replace Ky : Hid (Cw w12 w4.heap.size (gcdS na la nb lb).1.1 A4 (gcdS na la nb lb).1.2.length c4) := Cw.keep Ky.out hb
      replace Kp : Hid (Cw w12 w5.heap.size (shS na la k).1.1 A5 (shS na la k).1.2.length c5) := Cw.keep Kp.out hb
      replace Kq : Hid (Cw w12 w6.heap.size (shS na la k).1.1 A6 (shS na la k).1.2.length c6) := Cw.keep Kq.out hb
      replace Ks : Hid (Cw w12 w7.heap.size (powS na la n).1.1 A7 (powS na la n).1.2.length c7) := Cw.keep Ks.out hb
      replace Kt : Hid (Cw w12 w8.heap.size (powS na la n).1.1 A8 (powS na la n).1.2.length c8) := Cw.keep Kt.out hb
      replace Ku : Hid (Cw w12 w9.heap.size (sqrtS na la).1.1 A9 (sqrtS na la).1.2.length c9) := Cw.keep Ku.out hb
      replace Kv : Hid (Cw w12 w10.heap.size (sqrtS na la).1.1 A10 (sqrtS na la).1.2.length c10) := Cw.keep Kv.out hb
      replace Sa : Hid (Sl w12 A1 la ca) := Sl.below Sa.out hb
      replace Sb : Hid (Sl w12 A2 lb cb) := Sl.below Sb.out hb
      replace Sx : Hid (Sl w12 A3 (gcdS na la nb lb).1.2 c3) := Sl.below Sx.out hb
      replace Sy : Hid (Sl w12 A4 (gcdS na la nb lb).1.2 c4) := Sl.below Sy.out hb
      replace Sp : Hid (Sl w12 A5 (shS na la k).1.2 c5) := Sl.below Sp.out hb
      replace Sq : Hid (Sl w12 A6 (shS na la k).1.2 c6) := Sl.below Sq.out hb
      replace Ss : Hid (Sl w12 A7 (powS na la n).1.2 c7) := Sl.below Ss.out hb
      replace St : Hid (Sl w12 A8 (powS na la n).1.2 c8) := Sl.below St.out hb
      replace Su : Hid (Sl w12 A9 (sqrtS na la).1.2 c9) := Sl.below Su.out hb
      replace Sv : Hid (Sl w12 A10 (sqrtS na la).1.2 c10) := Sl.below Sv.out hb
      replace B : Hid (Below w.heap.size w w12) := below_mono B.out hb
      clear hb
      replace hza : w.heap.size < w12.heap.size := lt_of_cell (a := ⟨w.heap.size, 0, none⟩) Ka.out.1
      replace hzb : w.heap.size + 1 < w12.heap.size := lt_of_cell (a := ⟨w.heap.size + 1, 0, none⟩) Kb.out.1
      replace hzx : w3.heap.size < w12.heap.size := lt_of_cell (a := ⟨w3.heap.size, 0, none⟩) Kx.out.1
      replace hzy : w4.heap.size < w12.heap.size := lt_of_cell (a := ⟨w4.heap.size, 0, none⟩) Ky.out.1
      replace hzp : w5.heap.size < w12.heap.size := lt_of_cell (a := ⟨w5.heap.size, 0, none⟩) Kp.out.1
      replace hzq : w6.heap.size < w12.heap.size := lt_of_cell (a := ⟨w6.heap.size, 0, none⟩) Kq.out.1
      replace hzs : w7.heap.size < w12.heap.size := lt_of_cell (a := ⟨w7.heap.size, 0, none⟩) Ks.out.1
      replace hzt : w8.heap.size < w12.heap.size := lt_of_cell (a := ⟨w8.heap.size, 0, none⟩) Kt.out.1
      replace hzu : w9.heap.size < w12.heap.size := lt_of_cell (a := ⟨w9.heap.size, 0, none⟩) Ku.out.1
      replace hzv : w10.heap.size < w12.heap.size := lt_of_cell (a := ⟨w10.heap.size, 0, none⟩) Kv.out.1
      obtain ⟨qs0, qs1⟩ := Ks.out
      obtain ⟨qt0, qt1⟩ := Kt.out
      go_wp2_with fail
      refine (same_self _ _ _ _ _ _ _ Ss.out St.out).mono ?_
      rintro e w13 ⟨rfl, hb⟩
      clear qs0 qs1 qt0 qt1
      replace Ka : Hid (Cw w13 w.heap.size na A1 la.length ca) := Cw.keep Ka.out hb
      replace Kb : Hid (Cw w13 (w.heap.size + 1) nb A2 lb.length cb) := Cw.keep Kb.out hb
      replace Kx : Hid (Cw w13 w3.heap.size (gcdS na la nb lb).1.1 A3 (gcdS na la nb lb).1.2.length c3) := Cw.keep Kx.out hb
      replace Ky : Hid (Cw w13 w4.heap.size (gcdS na la nb lb).1.1 A4 (gcdS na la nb lb).1.2.length c4) := Cw.keep Ky.out hb
      replace Kp : Hid (Cw w13 w5.heap.size (shS na la k).1.1 A5 (shS na la k).1.2.length c5) := Cw.keep Kp.out hb
      replace Kq : Hid (Cw w13 w6.heap.size (shS na la k).1.1 A6 (shS na la k).1.2.length c6) := Cw.keep Kq.out hb
      replace Ks : Hid (Cw w13 w7.heap.size (powS na la n).1.1 A7 (powS na la n).1.2.length c7) := Cw.keep Ks.out hb
      replace Kt : Hid (Cw w13 w8.heap.size (powS na la n).1.1 A8 (powS na la n).1.2.length c8) := Cw.keep Kt.out hb
      replace Ku : Hid (Cw w13 w9.heap.size (sqrtS na la).1.1 A9 (sqrtS na la).1.2.length c9) := Cw.keep Ku.out hb
      replace Kv : Hid (Cw w13 w10.heap.size (sqrtS na la).1.1 A10 (sqrtS na la).1.2.length c10) := Cw.keep Kv.out hb
      replace Sa : Hid (Sl w13 A1 la ca) := Sl.below Sa.out hb
      replace Sb : Hid (Sl w13 A2 lb cb) := Sl.below Sb.out hb
      replace Sx : Hid (Sl w13 A3 (gcdS na la nb lb).1.2 c3) := Sl.below Sx.out hb
      replace Sy : Hid (Sl w13 A4 (gcdS na la nb lb).1.2 c4) := Sl.below Sy.out hb
      replace Sp : Hid (Sl w13 A5 (shS na la k).1.2 c5) := Sl.below Sp.out hb
      replace Sq : Hid (Sl w13 A6 (shS na la k).1.2 c6) := Sl.below Sq.out hb
      replace Ss : Hid (Sl w13 A7 (powS na la n).1.2 c7) := Sl.below Ss.out hb
      replace St : Hid (Sl w13 A8 (powS na la n).1.2 c8) := Sl.below St.out hb
      replace Su : Hid (Sl w13 A9 (sqrtS na la).1.2 c9) := Sl.below Su.out hb
      replace Sv : Hid (Sl w13 A10 (sqrtS na la).1.2 c10) := Sl.below Sv.out hb
      replace B : Hid (Below w.heap.size w w13) := below_mono B.out hb
      clear hb
      replace hza : w.heap.size < w13.heap.size := lt_of_cell (a := ⟨w.heap.size, 0, none⟩) Ka.out.1
      replace hzb : w.heap.size + 1 < w13.heap.size := lt_of_cell (a := ⟨w.heap.size + 1, 0, none⟩) Kb.out.1
      replace hzx : w3.heap.size < w13.heap.size := lt_of_cell (a := ⟨w3.heap.size, 0, none⟩) Kx.out.1
      replace hzy : w4.heap.size < w13.heap.size := lt_of_cell (a := ⟨w4.heap.size, 0, none⟩) Ky.out.1
      replace hzp : w5.heap.size < w13.heap.size := lt_of_cell (a := ⟨w5.heap.size, 0, none⟩) Kp.out.1
      replace hzq : w6.heap.size < w13.heap.size := lt_of_cell (a := ⟨w6.heap.size, 0, none⟩) Kq.out.1
      replace hzs : w7.heap.size < w13.heap.size := lt_of_cell (a := ⟨w7.heap.size, 0, none⟩) Ks.out.1
      replace hzt : w8.heap.size < w13.heap.size := lt_of_cell (a := ⟨w8.heap.size, 0, none⟩) Kt.out.1
      replace hzu : w9.heap.size < w13.heap.size := lt_of_cell (a := ⟨w9.heap.size, 0, none⟩) Ku.out.1
      replace hzv : w10.heap.size < w13.heap.size := lt_of_cell (a := ⟨w10.heap.size, 0, none⟩) Kv.out.1
      obtain ⟨qu0, qu1⟩ := Ku.out
      obtain ⟨qv0, qv1⟩ := Kv.out
      go_wp2_with fail
      refine (same_self _ _ _ _ _ _ _ Su.out Sv.out).mono ?_
      rintro e w14 ⟨rfl, hb⟩
      clear qu0 qu1 qv0 qv1
      replace Ka : Hid (Cw w14 w.heap.size na A1 la.length ca) := Cw.keep Ka.out hb
      replace Kb : Hid (Cw w14 (w.heap.size + 1) nb A2 lb.length cb) := Cw.keep Kb.out hb
      replace Kx : Hid (Cw w14 w3.heap.size (gcdS na la nb lb).1.1 A3 (gcdS na la nb lb).1.2.length c3) := Cw.keep Kx.out hb
      replace Ky : Hid (Cw w14 w4.heap.size (gcdS na la nb lb).1.1 A4 (gcdS na la nb lb).1.2.length c4) := Cw.keep Ky.out hb
      replace Kp : Hid (Cw w14 w5.heap.size (shS na la k).1.1 A5 (shS na la k).1.2.length c5) := Cw.keep Kp.out hb
      replace Kq : Hid (Cw w14 w6.heap.size (shS na la k).1.1 A6 (shS na la k).1.2.length c6) := Cw.keep Kq.out hb
      replace Ks : Hid (Cw w14 w7.heap.size (powS na la n).1.1 A7 (powS na la n).1.2.length c7) := Cw.keep Ks.out hb
      replace Kt : Hid (Cw w14 w8.heap.size (powS na la n).1.1 A8 (powS na la n).1.2.length c8) := Cw.keep Kt.out hb
      replace Ku : Hid (Cw w14 w9.heap.size (sqrtS na la).1.1 A9 (sqrtS na la).1.2.length c9) := Cw.keep Ku.out hb
      replace Kv : Hid (Cw w14 w10.heap.size (sqrtS na la).1.1 A10 (sqrtS na la).1.2.length c10) := Cw.keep Kv.out hb
      replace Sa : Hid (Sl w14 A1 la ca) := Sl.below Sa.out hb
      replace Sb : Hid (Sl w14 A2 lb cb) := Sl.below Sb.out hb
      replace Sx : Hid (Sl w14 A3 (gcdS na la nb lb).1.2 c3) := Sl.below Sx.out hb
      replace Sy : Hid (Sl w14 A4 (gcdS na la nb lb).1.2 c4) := Sl.below Sy.out hb
      replace Sp : Hid (Sl w14 A5 (shS na la k).1.2 c5) := Sl.below Sp.out hb
      replace Sq : Hid (Sl w14 A6 (shS na la k).1.2 c6) := Sl.below Sq.out hb
      replace Ss : Hid (Sl w14 A7 (powS na la n).1.2 c7) := Sl.below Ss.out hb
      replace St : Hid (Sl w14 A8 (powS na la n).1.2 c8) := Sl.below St.out hb
      replace Su : Hid (Sl w14 A9 (sqrtS na la).1.2 c9) := Sl.below Su.out hb
      replace Sv : Hid (Sl w14 A10 (sqrtS na la).1.2 c10) := Sl.below Sv.out hb
      replace B : Hid (Below w.heap.size w w14) := below_mono B.out hb
      clear hb
      replace hza : w.heap.size < w14.heap.size := lt_of_cell (a := ⟨w.heap.size, 0, none⟩) Ka.out.1
      replace hzb : w.heap.size + 1 < w14.heap.size := lt_of_cell (a := ⟨w.heap.size + 1, 0, none⟩) Kb.out.1
      replace hzx : w3.heap.size < w14.heap.size := lt_of_cell (a := ⟨w3.heap.size, 0, none⟩) Kx.out.1
      replace hzy : w4.heap.size < w14.heap.size := lt_of_cell (a := ⟨w4.heap.size, 0, none⟩) Ky.out.1
      replace hzp : w5.heap.size < w14.heap.size := lt_of_cell (a := ⟨w5.heap.size, 0, none⟩) Kp.out.1
      replace hzq : w6.heap.size < w14.heap.size := lt_of_cell (a := ⟨w6.heap.size, 0, none⟩) Kq.out.1
      replace hzs : w7.heap.size < w14.heap.size := lt_of_cell (a := ⟨w7.heap.size, 0, none⟩) Ks.out.1
      replace hzt : w8.heap.size < w14.heap.size := lt_of_cell (a := ⟨w8.heap.size, 0, none⟩) Kt.out.1
      replace hzu : w9.heap.size < w14.heap.size := lt_of_cell (a := ⟨w9.heap.size, 0, none⟩) Ku.out.1
      replace hzv : w10.heap.size < w14.heap.size := lt_of_cell (a := ⟨w10.heap.size, 0, none⟩) Kv.out.1
      go_wp2
      go_ret
      exact ⟨rfl, B.out⟩
    · go_enter Try.func5, Try.ntmps5
      go_wp2_with fail
      refine (great_any na A1 la ca _).mono ?_
      rintro e w1 ⟨rfl, hb⟩
      obtain ⟨qb0, qb1⟩ : Cw w1 (w.heap.size + 1) nb A2 lb.length cb := Cw.keep (Cw.fresh (by simp) _ _ _ _ _) hb
      go_wp2_with fail
      refine (great_any nb A2 lb cb _).mono ?_
      rintro e w2 ⟨rfl, hb2⟩
      go_wp2
      go_ret
      exact ⟨rfl, below_mono (below_mono (blw2 _ _ _) hb) hb2⟩
  · go_enter Try.func5, Try.ntmps5
    go_wp2_with fail
    refine (great_any na A1 la ca _).mono ?_
    rintro e w1 ⟨rfl, hb⟩
    go_wp2
    go_ret
    exact ⟨rfl, below_mono (blw2 _ _ _) hb⟩
end Go.Proofs.Ytejapkdhbpngbaa
